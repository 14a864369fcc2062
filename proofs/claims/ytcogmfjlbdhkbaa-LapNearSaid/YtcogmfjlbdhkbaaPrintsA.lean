/- Pure functions, entries and equations of the functions that the statements reach: printed by a program of this session. -/
import Derived.Test.YtcogmfjlbdhkbaaProg
import Derived.Test.YtcogmfjlbdhkbaaFrameD
set_option linter.unusedVariables false
set_option linter.unusedSimpArgs false
set_option maxRecDepth 20000
namespace Go.Sh.c08
open Go.Proofs
def globs : List (Nat × D) := []

/-! f27: shawm/shawmref08.Is -/
abbrev f27p : Pat := ⟨[], [(0, .dat (.list I))]⟩
abbrev f27o : Pat := ⟨[], [(0, .dat .bool)]⟩
noncomputable def f27c : Code := (Try.f27.body).getD .skip
noncomputable def f27l0c : Code := (((loopsIn 0 f27c)[0]?).map (·.2)).getD .skip
abbrev f27l0p : Pat := ⟨[], [(5, .dat (.list I)), (6, .dat I), (7, .dat I)]⟩
abbrev f27l0x : List (Ex × Pat) := [(.exit 0, ⟨[], []⟩), (.ret, ⟨[], [(2, .dat .bool)]⟩)]
def f27l0 (N : Nat) : Nat → (List Int) → Int → Int → Option ((Unit × Unit) ⊕ (Unit × (Bool × Unit)))
  | 0, _, _, _ => none
  | n + 1, t5, t6, t7 =>
    bif (decide (t7 < t6)) then (
     bif ((decide (0 ≤ t7)) && (decide (t7 < ((List.length t5 : Nat) : Int)))) then (
      bif ((List.getD t5 (Int.toNat t7) 0) != 16) then (
       bif ((List.getD t5 (Int.toNat t7) 0) != 128) then (
        some (Sum.inr ((), (false, ()))))
       else (
        (f27l0 N n t5 t6 (IntKind.i64.wrap (t7 + 1))).bind some))
      else (
       (f27l0 N n t5 t6 (IntKind.i64.wrap (t7 + 1))).bind some))
     else (
      none))
    else (
     some (Sum.inl ((), ())))
def f27l0L (N : Nat) : LoopE .unit := { blk := 0, pre := f27l0p, exits := f27l0x, wr := [2,4,7,8,9,10,11,12,13,14,15,16,17], F := fun x => f27l0 N N x.2.1 x.2.2.1 x.2.2.2.1 }
def f27F (N : Nat) (t0 : (List Int)) : Option (Unit × (Bool × Unit)) :=
  (f27l0 N N t0 ((List.length t0 : Nat) : Int) 0).bind fun y1 =>
  Sum.elim (fun u2 =>
    some ((), ((decide (((List.length t0 : Nat) : Int) ≤ 512)), ())))
   (fun w3 =>
    some ((), (w3.2.1, ()))) y1
def f27e (N : Nat) : Entry := { f := 27, pre := f27p, post := f27o, F := fun x => f27F N x.2.1 }
noncomputable def f27E (N : Nat) : Env .unit := { P := Try.prog, globs := globs, funs := [], loops := [f27l0L N], ranges := [] }
theorem f27l0s (N : Nat) (n1 : Nat) (g : Unit) (t5 : (List Int)) (t6 : Int) (t7 : Int) : runLoop (sT := .unit) (f27E N) (sumTy f27l0x) f27l0x (fun _ y => y) f27l0c f27l0p (fun _ x => f27l0 N n1 x.2.1 x.2.2.1 x.2.2.2.1) g ((), (t5, (t6, (t7, ())))) = f27l0 N (n1 + 1) t5 t6 t7 := by
  kernel_rfl
theorem f27l0ok (N : Nat) : LoopOk (f27E N) Try.prog f27l0c (f27l0L N) :=
  loopOk (L := f27l0L N) (f := fun n x => f27l0 N n x.2.1 x.2.2.1 x.2.2.2.1) (N := N) (LoopsOk.none (by kernel_rfl) (by kernel_rfl)) (by kernel_rfl) (by kernel_rfl) rfl rfl (fun _ => rfl) (fun n1 g x => f27l0s N n1 g x.2.1 x.2.2.1 x.2.2.2.1)
theorem f27q (N : Nat) (t0 : (List Int)) : runFun (f27E N) f27o.ty f27o (fun _ y => y) Try.f27 f27p () ((), (t0, ())) = f27F N t0 := by
  kernel_rfl
theorem f27ok (N : Nat) : EntryOk Try.prog globs (f27e N) :=
  funOk (E := f27E N) (e := f27e N) (fn := Try.f27) (c := f27c) rfl (by kernel_rfl) (by kernel_rfl) (by kernel_rfl) (by kernel_rfl) rfl rfl (List.forall_mem_nil _) (LoopsOk.both (l := [(0, f27l0c)]) (r := []) (by kernel_rfl) (by kernel_rfl) (List.forall_mem_cons.2 ⟨LoopFor.of (L := f27l0L N) (by kernel_rfl) (f27l0ok N) (by kernel_rfl), (List.forall_mem_nil _)⟩) (List.forall_mem_nil _)) (by kernel_rfl) (by kernel_rfl) (by kernel_rfl) (fun x => f27q N x.2.1)

/-! f28: shawm/shawmref08.Sum -/
abbrev f28p : Pat := ⟨[], [(0, .dat (.list I))]⟩
abbrev f28o : Pat := ⟨[], [(0, .dat I)]⟩
noncomputable def f28c : Code := (Try.f28.body).getD .skip
noncomputable def f28l0c : Code := (((loopsIn 0 f28c)[0]?).map (·.2)).getD .skip
abbrev f28l0p : Pat := ⟨[], [(3, .dat I), (6, .dat (.list I)), (7, .dat I), (8, .dat I)]⟩
abbrev f28l0x : List (Ex × Pat) := [(.exit 0, ⟨[], [(3, .dat I)]⟩)]
def f28l0 (N : Nat) : Nat → Int → (List Int) → Int → Int → Option (Unit × (Int × Unit))
  | 0, _, _, _, _ => none
  | n + 1, t3, t6, t7, t8 =>
    bif (decide (t8 < t7)) then (
     bif ((decide (0 ≤ t8)) && (decide (t8 < ((List.length t6 : Nat) : Int)))) then (
      (f28l0 N n (IntKind.i64.wrap (t3 + (List.getD t6 (Int.toNat t8) 0))) t6 t7 (IntKind.i64.wrap (t8 + 1))).bind some)
     else (
      none))
    else (
     some ((), (t3, ())))
def f28l0L (N : Nat) : LoopE .unit := { blk := 0, pre := f28l0p, exits := f28l0x, wr := [3,5,8,9,10,11,12,13,14,15], F := fun x => f28l0 N N x.2.1 x.2.2.1 x.2.2.2.1 x.2.2.2.2.1 }
def f28F (N : Nat) (t0 : (List Int)) : Option (Unit × (Int × Unit)) :=
  (f28l0 N N 0 t0 ((List.length t0 : Nat) : Int) 0).bind fun y1 =>
  some ((), (y1.2.1, ()))
def f28e (N : Nat) : Entry := { f := 28, pre := f28p, post := f28o, F := fun x => f28F N x.2.1 }
noncomputable def f28E (N : Nat) : Env .unit := { P := Try.prog, globs := globs, funs := [], loops := [f28l0L N], ranges := [] }
theorem f28l0s (N : Nat) (n1 : Nat) (g : Unit) (t3 : Int) (t6 : (List Int)) (t7 : Int) (t8 : Int) : runLoop (sT := .unit) (f28E N) (sumTy f28l0x) f28l0x (fun _ y => y) f28l0c f28l0p (fun _ x => f28l0 N n1 x.2.1 x.2.2.1 x.2.2.2.1 x.2.2.2.2.1) g ((), (t3, (t6, (t7, (t8, ()))))) = f28l0 N (n1 + 1) t3 t6 t7 t8 := by
  kernel_rfl
theorem f28l0ok (N : Nat) : LoopOk (f28E N) Try.prog f28l0c (f28l0L N) :=
  loopOk (L := f28l0L N) (f := fun n x => f28l0 N n x.2.1 x.2.2.1 x.2.2.2.1 x.2.2.2.2.1) (N := N) (LoopsOk.none (by kernel_rfl) (by kernel_rfl)) (by kernel_rfl) (by kernel_rfl) rfl rfl (fun _ => rfl) (fun n1 g x => f28l0s N n1 g x.2.1 x.2.2.1 x.2.2.2.1 x.2.2.2.2.1)
theorem f28q (N : Nat) (t0 : (List Int)) : runFun (f28E N) f28o.ty f28o (fun _ y => y) Try.f28 f28p () ((), (t0, ())) = f28F N t0 := by
  kernel_rfl
theorem f28ok (N : Nat) : EntryOk Try.prog globs (f28e N) :=
  funOk (E := f28E N) (e := f28e N) (fn := Try.f28) (c := f28c) rfl (by kernel_rfl) (by kernel_rfl) (by kernel_rfl) (by kernel_rfl) rfl rfl (List.forall_mem_nil _) (LoopsOk.both (l := [(0, f28l0c)]) (r := []) (by kernel_rfl) (by kernel_rfl) (List.forall_mem_cons.2 ⟨LoopFor.of (L := f28l0L N) (by kernel_rfl) (f28l0ok N) (by kernel_rfl), (List.forall_mem_nil _)⟩) (List.forall_mem_nil _)) (by kernel_rfl) (by kernel_rfl) (by kernel_rfl) (fun x => f28q N x.2.1)

/-! f12: shawm/shawmlaw08.great -/
abbrev f12p : Pat := ⟨[], [(0, .dat (.list I)), (1, .dat (.list I))]⟩
abbrev f12o : Pat := ⟨[], [(0, .dat .bool)]⟩
noncomputable def f12c : Code := (Try.f12.body).getD .skip
def f12F (N : Nat) (t0 : (List Int)) (t1 : (List Int)) : Option (Unit × (Bool × Unit)) :=
  bif (decide (1200 < ((List.length t0 : Nat) : Int))) then (
   some ((), (true, ())))
  else (
   bif (decide (600 < ((List.length t1 : Nat) : Int))) then (
    some ((), (true, ())))
   else (
    (f27F N t1).bind fun y1 =>
    bif y1.2.1 then (
     (f28F N t1).bind fun y2 =>
     bif (y2.2.1 == ((List.length t0 : Nat) : Int)) then (
      some ((), ((decide (40 < ((List.length t1 : Nat) : Int))), ())))
     else (
      some ((), (false, ()))))
    else (
     some ((), (false, ())))))
def f12e (N : Nat) : Entry := { f := 12, pre := f12p, post := f12o, F := fun x => f12F N x.2.1 x.2.2.1 }
noncomputable def f12E (N : Nat) : Env .unit := { P := Try.prog, globs := globs, funs := [f27e N, f28e N], loops := [], ranges := [] }
theorem f12q (N : Nat) (t0 : (List Int)) (t1 : (List Int)) : runFun (f12E N) f12o.ty f12o (fun _ y => y) Try.f12 f12p () ((), (t0, (t1, ()))) = f12F N t0 t1 := by
  kernel_rfl
theorem f12ok (N : Nat) : EntryOk Try.prog globs (f12e N) :=
  funOk (E := f12E N) (e := f12e N) (fn := Try.f12) (c := f12c) rfl (by kernel_rfl) (by kernel_rfl) (by kernel_rfl) (by kernel_rfl) rfl rfl (List.forall_mem_cons.2 ⟨f27ok N, (List.forall_mem_cons.2 ⟨f28ok N, (List.forall_mem_nil _)⟩)⟩) (LoopsOk.none (by kernel_rfl) (by kernel_rfl)) (by kernel_rfl) (by kernel_rfl) (by kernel_rfl) (fun x => f12q N x.2.1 x.2.2.1)

/-! f43: shawm/lap.isLayout -/
abbrev f43p : Pat := ⟨[], [(0, .dat (.list I))]⟩
abbrev f43o : Pat := ⟨[], [(0, .dat .bool)]⟩
noncomputable def f43c : Code := (Try.f43.body).getD .skip
noncomputable def f43l0c : Code := (((loopsIn 0 f43c)[0]?).map (·.2)).getD .skip
abbrev f43l0p : Pat := ⟨[], [(5, .dat (.list I)), (6, .dat I), (7, .dat I)]⟩
abbrev f43l0x : List (Ex × Pat) := [(.exit 0, ⟨[], []⟩), (.ret, ⟨[], [(2, .dat .bool)]⟩)]
def f43l0 (N : Nat) : Nat → (List Int) → Int → Int → Option ((Unit × Unit) ⊕ (Unit × (Bool × Unit)))
  | 0, _, _, _ => none
  | n + 1, t5, t6, t7 =>
    bif (decide (t7 < t6)) then (
     bif ((decide (0 ≤ t7)) && (decide (t7 < ((List.length t5 : Nat) : Int)))) then (
      bif ((List.getD t5 (Int.toNat t7) 0) != 128) then (
       bif ((List.getD t5 (Int.toNat t7) 0) != 16) then (
        some (Sum.inr ((), (false, ()))))
       else (
        (f43l0 N n t5 t6 (IntKind.i64.wrap (t7 + 1))).bind some))
      else (
       (f43l0 N n t5 t6 (IntKind.i64.wrap (t7 + 1))).bind some))
     else (
      none))
    else (
     some (Sum.inl ((), ())))
def f43l0L (N : Nat) : LoopE .unit := { blk := 0, pre := f43l0p, exits := f43l0x, wr := [2,4,7,8,9,10,11,12,13,14,15,16,17], F := fun x => f43l0 N N x.2.1 x.2.2.1 x.2.2.2.1 }
def f43F (N : Nat) (t0 : (List Int)) : Option (Unit × (Bool × Unit)) :=
  (f43l0 N N t0 ((List.length t0 : Nat) : Int) 0).bind fun y1 =>
  Sum.elim (fun u2 =>
    some ((), ((decide (((List.length t0 : Nat) : Int) ≤ 512)), ())))
   (fun w3 =>
    some ((), (w3.2.1, ()))) y1
def f43e (N : Nat) : Entry := { f := 43, pre := f43p, post := f43o, F := fun x => f43F N x.2.1 }
noncomputable def f43E (N : Nat) : Env .unit := { P := Try.prog, globs := globs, funs := [], loops := [f43l0L N], ranges := [] }
theorem f43l0s (N : Nat) (n1 : Nat) (g : Unit) (t5 : (List Int)) (t6 : Int) (t7 : Int) : runLoop (sT := .unit) (f43E N) (sumTy f43l0x) f43l0x (fun _ y => y) f43l0c f43l0p (fun _ x => f43l0 N n1 x.2.1 x.2.2.1 x.2.2.2.1) g ((), (t5, (t6, (t7, ())))) = f43l0 N (n1 + 1) t5 t6 t7 := by
  kernel_rfl
theorem f43l0ok (N : Nat) : LoopOk (f43E N) Try.prog f43l0c (f43l0L N) :=
  loopOk (L := f43l0L N) (f := fun n x => f43l0 N n x.2.1 x.2.2.1 x.2.2.2.1) (N := N) (LoopsOk.none (by kernel_rfl) (by kernel_rfl)) (by kernel_rfl) (by kernel_rfl) rfl rfl (fun _ => rfl) (fun n1 g x => f43l0s N n1 g x.2.1 x.2.2.1 x.2.2.2.1)
theorem f43q (N : Nat) (t0 : (List Int)) : runFun (f43E N) f43o.ty f43o (fun _ y => y) Try.f43 f43p () ((), (t0, ())) = f43F N t0 := by
  kernel_rfl
theorem f43ok (N : Nat) : EntryOk Try.prog globs (f43e N) :=
  funOk (E := f43E N) (e := f43e N) (fn := Try.f43) (c := f43c) rfl (by kernel_rfl) (by kernel_rfl) (by kernel_rfl) (by kernel_rfl) rfl rfl (List.forall_mem_nil _) (LoopsOk.both (l := [(0, f43l0c)]) (r := []) (by kernel_rfl) (by kernel_rfl) (List.forall_mem_cons.2 ⟨LoopFor.of (L := f43l0L N) (by kernel_rfl) (f43l0ok N) (by kernel_rfl), (List.forall_mem_nil _)⟩) (List.forall_mem_nil _)) (by kernel_rfl) (by kernel_rfl) (by kernel_rfl) (fun x => f43q N x.2.1)

/-! f44: shawm/lap.total -/
abbrev f44p : Pat := ⟨[], [(0, .dat (.list I))]⟩
abbrev f44o : Pat := ⟨[], [(0, .dat I)]⟩
noncomputable def f44c : Code := (Try.f44.body).getD .skip
noncomputable def f44l0c : Code := (((loopsIn 0 f44c)[0]?).map (·.2)).getD .skip
abbrev f44l0p : Pat := ⟨[], [(3, .dat I), (6, .dat (.list I)), (7, .dat I), (8, .dat I)]⟩
abbrev f44l0x : List (Ex × Pat) := [(.exit 0, ⟨[], [(3, .dat I)]⟩)]
def f44l0 (N : Nat) : Nat → Int → (List Int) → Int → Int → Option (Unit × (Int × Unit))
  | 0, _, _, _, _ => none
  | n + 1, t3, t6, t7, t8 =>
    bif (decide (t8 < t7)) then (
     bif ((decide (0 ≤ t8)) && (decide (t8 < ((List.length t6 : Nat) : Int)))) then (
      (f44l0 N n (IntKind.i64.wrap (t3 + (List.getD t6 (Int.toNat t8) 0))) t6 t7 (IntKind.i64.wrap (t8 + 1))).bind some)
     else (
      none))
    else (
     some ((), (t3, ())))
def f44l0L (N : Nat) : LoopE .unit := { blk := 0, pre := f44l0p, exits := f44l0x, wr := [3,5,8,9,10,11,12,13,14,15], F := fun x => f44l0 N N x.2.1 x.2.2.1 x.2.2.2.1 x.2.2.2.2.1 }
def f44F (N : Nat) (t0 : (List Int)) : Option (Unit × (Int × Unit)) :=
  (f44l0 N N 0 t0 ((List.length t0 : Nat) : Int) 0).bind fun y1 =>
  some ((), (y1.2.1, ()))
def f44e (N : Nat) : Entry := { f := 44, pre := f44p, post := f44o, F := fun x => f44F N x.2.1 }
noncomputable def f44E (N : Nat) : Env .unit := { P := Try.prog, globs := globs, funs := [], loops := [f44l0L N], ranges := [] }
theorem f44l0s (N : Nat) (n1 : Nat) (g : Unit) (t3 : Int) (t6 : (List Int)) (t7 : Int) (t8 : Int) : runLoop (sT := .unit) (f44E N) (sumTy f44l0x) f44l0x (fun _ y => y) f44l0c f44l0p (fun _ x => f44l0 N n1 x.2.1 x.2.2.1 x.2.2.2.1 x.2.2.2.2.1) g ((), (t3, (t6, (t7, (t8, ()))))) = f44l0 N (n1 + 1) t3 t6 t7 t8 := by
  kernel_rfl
theorem f44l0ok (N : Nat) : LoopOk (f44E N) Try.prog f44l0c (f44l0L N) :=
  loopOk (L := f44l0L N) (f := fun n x => f44l0 N n x.2.1 x.2.2.1 x.2.2.2.1 x.2.2.2.2.1) (N := N) (LoopsOk.none (by kernel_rfl) (by kernel_rfl)) (by kernel_rfl) (by kernel_rfl) rfl rfl (fun _ => rfl) (fun n1 g x => f44l0s N n1 g x.2.1 x.2.2.1 x.2.2.2.1 x.2.2.2.2.1)
theorem f44q (N : Nat) (t0 : (List Int)) : runFun (f44E N) f44o.ty f44o (fun _ y => y) Try.f44 f44p () ((), (t0, ())) = f44F N t0 := by
  kernel_rfl
theorem f44ok (N : Nat) : EntryOk Try.prog globs (f44e N) :=
  funOk (E := f44E N) (e := f44e N) (fn := Try.f44) (c := f44c) rfl (by kernel_rfl) (by kernel_rfl) (by kernel_rfl) (by kernel_rfl) rfl rfl (List.forall_mem_nil _) (LoopsOk.both (l := [(0, f44l0c)]) (r := []) (by kernel_rfl) (by kernel_rfl) (List.forall_mem_cons.2 ⟨LoopFor.of (L := f44l0L N) (by kernel_rfl) (f44l0ok N) (by kernel_rfl), (List.forall_mem_nil _)⟩) (List.forall_mem_nil _)) (by kernel_rfl) (by kernel_rfl) (by kernel_rfl) (fun x => f44q N x.2.1)

/-! f30: shawm/lap.check -/
abbrev f30p : Pat := ⟨[], [(0, .dat (.list I)), (1, .dat (.list I)), (2, .dat I)]⟩
abbrev f30o : Pat := ⟨[], [(0, .dat I)]⟩
noncomputable def f30c : Code := (Try.f30.body).getD .skip
noncomputable def f30l0c : Code := (((loopsIn 0 f30c)[0]?).map (·.2)).getD .skip
abbrev f30l0p : Pat := ⟨[], [(2, .dat I), (17, .dat (.list I)), (18, .dat I), (19, .dat I)]⟩
abbrev f30l0x : List (Ex × Pat) := [(.exit 0, ⟨[], []⟩), (.ret, ⟨[], [(6, .dat I)]⟩)]
def f30l0 (N : Nat) : Nat → Int → (List Int) → Int → Int → Option ((Unit × Unit) ⊕ (Unit × (Int × Unit)))
  | 0, _, _, _, _ => none
  | n + 1, t2, t17, t18, t19 =>
    bif (decide (t19 < t18)) then (
     bif ((decide (0 ≤ t19)) && (decide (t19 < ((List.length t17 : Nat) : Int)))) then (
      bif (decide ((List.getD t17 (Int.toNat t19) 0) < (IntKind.i64.wrap (0 - t2)))) then (
       some (Sum.inr ((), (6, ()))))
      else (
       bif (decide (t2 < (List.getD t17 (Int.toNat t19) 0))) then (
        some (Sum.inr ((), (6, ()))))
       else (
        (f30l0 N n t2 t17 t18 (IntKind.i64.wrap (t19 + 1))).bind some)))
     else (
      none))
    else (
     some (Sum.inl ((), ())))
def f30l0L (N : Nat) : LoopE .unit := { blk := 0, pre := f30l0p, exits := f30l0x, wr := [6,8,19,20,21,22,23,24,25,26,27,28,29,30,31,32], F := fun x => f30l0 N N x.2.1 x.2.2.1 x.2.2.2.1 x.2.2.2.2.1 }
def f30F (N : Nat) (t0 : (List Int)) (t1 : (List Int)) (t2 : Int) : Option (Unit × (Int × Unit)) :=
  (f43F N t1).bind fun y1 =>
  bif (!y1.2.1) then (
   some ((), (1, ())))
  else (
   (f44F N t1).bind fun y2 =>
   bif (((List.length t0 : Nat) : Int) != y2.2.1) then (
    some ((), (4, ())))
   else (
    (f30l0 N N t2 t0 ((List.length t0 : Nat) : Int) 0).bind fun y3 =>
    Sum.elim (fun u4 =>
      some ((), (0, ())))
     (fun w5 =>
      some ((), (w5.2.1, ()))) y3))
def f30e (N : Nat) : Entry := { f := 30, pre := f30p, post := f30o, F := fun x => f30F N x.2.1 x.2.2.1 x.2.2.2.1 }
noncomputable def f30E (N : Nat) : Env .unit := { P := Try.prog, globs := globs, funs := [f43e N, f44e N], loops := [f30l0L N], ranges := [] }
theorem f30l0s (N : Nat) (n1 : Nat) (g : Unit) (t2 : Int) (t17 : (List Int)) (t18 : Int) (t19 : Int) : runLoop (sT := .unit) (f30E N) (sumTy f30l0x) f30l0x (fun _ y => y) f30l0c f30l0p (fun _ x => f30l0 N n1 x.2.1 x.2.2.1 x.2.2.2.1 x.2.2.2.2.1) g ((), (t2, (t17, (t18, (t19, ()))))) = f30l0 N (n1 + 1) t2 t17 t18 t19 := by
  kernel_rfl
theorem f30l0ok (N : Nat) : LoopOk (f30E N) Try.prog f30l0c (f30l0L N) :=
  loopOk (L := f30l0L N) (f := fun n x => f30l0 N n x.2.1 x.2.2.1 x.2.2.2.1 x.2.2.2.2.1) (N := N) (LoopsOk.none (by kernel_rfl) (by kernel_rfl)) (by kernel_rfl) (by kernel_rfl) rfl rfl (fun _ => rfl) (fun n1 g x => f30l0s N n1 g x.2.1 x.2.2.1 x.2.2.2.1 x.2.2.2.2.1)
theorem f30q (N : Nat) (t0 : (List Int)) (t1 : (List Int)) (t2 : Int) : runFun (f30E N) f30o.ty f30o (fun _ y => y) Try.f30 f30p () ((), (t0, (t1, (t2, ())))) = f30F N t0 t1 t2 := by
  kernel_rfl
theorem f30ok (N : Nat) : EntryOk Try.prog globs (f30e N) :=
  funOk (E := f30E N) (e := f30e N) (fn := Try.f30) (c := f30c) rfl (by kernel_rfl) (by kernel_rfl) (by kernel_rfl) (by kernel_rfl) rfl rfl (List.forall_mem_cons.2 ⟨f43ok N, (List.forall_mem_cons.2 ⟨f44ok N, (List.forall_mem_nil _)⟩)⟩) (LoopsOk.both (l := [(0, f30l0c)]) (r := []) (by kernel_rfl) (by kernel_rfl) (List.forall_mem_cons.2 ⟨LoopFor.of (L := f30l0L N) (by kernel_rfl) (f30l0ok N) (by kernel_rfl), (List.forall_mem_nil _)⟩) (List.forall_mem_nil _)) (by kernel_rfl) (by kernel_rfl) (by kernel_rfl) (fun x => f30q N x.2.1 x.2.2.1 x.2.2.2.1)

/-! f31: shawm/lap.clone -/
abbrev f31p : Pat := ⟨[], [(0, .dat (.list I))]⟩
abbrev f31o : Pat := ⟨[.vec 3 I], [(0, .vref 0)]⟩
noncomputable def f31c : Code := (Try.f31.body).getD .skip
def f31F (N : Nat) (t0 : (List Int)) : Option (((List Int) × Unit) × (Unit × Unit)) :=
  bif (decide ((List.length ([] : List Int) + List.length t0) * 8 ≤ 140737488355328)) then (
   some (((List.append ([] : List Int) t0), ()), ((), ())))
  else (
   none)
def f31e (N : Nat) : Entry := { f := 31, pre := f31p, post := f31o, F := fun x => f31F N x.2.1 }
noncomputable def f31E (N : Nat) : Env .unit := { P := Try.prog, globs := globs, funs := [], loops := [], ranges := [] }
theorem f31q (N : Nat) (t0 : (List Int)) : runFun (f31E N) f31o.ty f31o (fun _ y => y) Try.f31 f31p () ((), (t0, ())) = f31F N t0 := by
  kernel_rfl
theorem f31ok (N : Nat) : EntryOk Try.prog globs (f31e N) :=
  funOk (E := f31E N) (e := f31e N) (fn := Try.f31) (c := f31c) rfl (by kernel_rfl) (by kernel_rfl) (by kernel_rfl) (by kernel_rfl) rfl rfl (List.forall_mem_nil _) (LoopsOk.none (by kernel_rfl) (by kernel_rfl)) (by kernel_rfl) (by kernel_rfl) (by kernel_rfl) (fun x => f31q N x.2.1)

/-! f47: shawm/lap.places -/
abbrev f47p : Pat := ⟨[], [(0, .dat (.list I))]⟩
abbrev f47o : Pat := ⟨[], [(0, .dat (.clo 67 .unit (.pair (.ref (.list I)) .unit)))]⟩
noncomputable def f47c : Code := (Try.f47.body).getD .skip
def f47F (N : Nat) (t0 : (List Int)) : Option (Unit × ((Unit × ((List Int) × Unit)) × Unit)) :=
  some ((), (((), (t0, ())), ()))
def f47e (N : Nat) : Entry := { f := 47, pre := f47p, post := f47o, F := fun x => f47F N x.2.1 }
noncomputable def f47E (N : Nat) : Env .unit := { P := Try.prog, globs := globs, funs := [], loops := [], ranges := [] }
theorem f47q (N : Nat) (t0 : (List Int)) : runFun (f47E N) f47o.ty f47o (fun _ y => y) Try.f47 f47p () ((), (t0, ())) = f47F N t0 := by
  kernel_rfl
theorem f47ok (N : Nat) : EntryOk Try.prog globs (f47e N) :=
  funOk (E := f47E N) (e := f47e N) (fn := Try.f47) (c := f47c) rfl (by kernel_rfl) (by kernel_rfl) (by kernel_rfl) (by kernel_rfl) rfl rfl (List.forall_mem_nil _) (LoopsOk.none (by kernel_rfl) (by kernel_rfl)) (by kernel_rfl) (by kernel_rfl) (by kernel_rfl) (fun x => f47q N x.2.1)

/-! i67: shawm/lap.places$1 -/
noncomputable def i67c : Code := (Try.f67.body).getD .skip
noncomputable def i67l0c : Code := (((loopsIn 0 i67c)[0]?).map (·.2)).getD .skip
abbrev i67l0p : Pat := ⟨[], [(0, .yld), (1, .dat (.ref (.list I))), (3, .dat I), (4, .dat I)]⟩
abbrev i67l0x : List (Ex × Pat) := [(.exit 0, ⟨[], []⟩), (.ret, ⟨[], []⟩)]
def i67l0 (N : Nat) (sT : Ty) (step : ((Int × (Int × Unit)) × Unit) → sT.den → Option (Bool × sT.den)) : Nat → (List Int) → Int → Int → sT.den → Option (sT.den × ((Unit × Unit) ⊕ (Unit × Unit)))
  | 0, _, _, _, _ => none
  | n + 1, t1, t3, t4, g =>
    bif (decide (t4 < ((List.length t1 : Nat) : Int))) then (
     bif ((decide (0 ≤ (IntKind.i64.wrap (t4 - 1)))) && (decide ((IntKind.i64.wrap (t4 - 1)) < ((List.length t1 : Nat) : Int)))) then (
      bif ((decide (0 ≤ (IntKind.i64.wrap (t4 - 1)))) && (decide ((IntKind.i64.wrap (t4 - 1)) < ((List.length t1 : Nat) : Int)))) then (
       bif ((decide (0 ≤ t4)) && (decide (t4 < ((List.length t1 : Nat) : Int)))) then (
        (step (((IntKind.i64.wrap (t3 + (List.getD t1 (Int.toNat (IntKind.i64.wrap (t4 - 1))) 0))), ((if (List.getD t1 (Int.toNat t4) 0) < (List.getD t1 (Int.toNat (IntKind.i64.wrap (t4 - 1))) 0) then (List.getD t1 (Int.toNat t4) 0) else (List.getD t1 (Int.toNat (IntKind.i64.wrap (t4 - 1))) 0)), ())), ()) g).bind fun r1 =>
        bif (!r1.1) then (
         some (r1.2, (Sum.inr ((), ()))))
        else (
         (i67l0 N sT step n t1 (IntKind.i64.wrap (t3 + (List.getD t1 (Int.toNat (IntKind.i64.wrap (t4 - 1))) 0))) (IntKind.i64.wrap (t4 + 1)) r1.2).bind some))
       else (
        none))
      else (
       none))
     else (
      none))
    else (
     some (g, (Sum.inl ((), ()))))
def i67l0L (N : Nat) (sT : Ty) (step : ((Int × (Int × Unit)) × Unit) → sT.den → Option (Bool × sT.den)) : LoopE sT := { blk := 0, pre := i67l0p, exits := i67l0x, wr := [3,4,5,6,7,8,9,10,11,12,13,14,15,16,17,18,19,20,21,22,23,24,25,26,27,28,29,30,31,32], F := fun _ => none, G := some fun g x => i67l0 N sT step N x.2.2.1 x.2.2.2.1 x.2.2.2.2.1 g }
def i67F (N : Nat) (sT : Ty) (step : ((Int × (Int × Unit)) × Unit) → sT.den → Option (Bool × sT.den)) (c0 : (List Int)) (g : sT.den) : Option sT.den :=
  (i67l0 N sT step N c0 0 1 g).bind fun y2 =>
  Sum.elim (fun u3 =>
    some y2.1)
   (fun w4 =>
    some y2.1) y2.2
def i67e (N : Nat) : IterE := { f := 67, a := .unit, b := (.pair (.ref (.list I)) .unit), Y := (.pair (.agg (.pair I (.pair I .unit))) .unit), F := fun sT step z g => i67F N sT step z.2.1 g }
noncomputable def i67E (N : Nat) (sT : Ty) (step : ((Int × (Int × Unit)) × Unit) → sT.den → Option (Bool × sT.den)) : Env sT := iterEnv Try.prog globs [] (.pair (.agg (.pair I (.pair I .unit))) .unit) [i67l0L N sT step] step
theorem i67l0s (N : Nat) (sT : Ty) (step : ((Int × (Int × Unit)) × Unit) → sT.den → Option (Bool × sT.den)) (n1 : Nat) (g : sT.den) (t1 : (List Int)) (t3 : Int) (t4 : Int) : runLoop (sT := sT) (i67E N sT step) (.pair sT (sumTy i67l0x)) i67l0x (fun g y => (g, y)) i67l0c i67l0p (fun g x => i67l0 N sT step n1 x.2.2.1 x.2.2.2.1 x.2.2.2.2.1 g) g ((), ((), (t1, (t3, (t4, ()))))) = i67l0 N sT step (n1 + 1) t1 t3 t4 g := by
  kernel_rfl
theorem i67l0ok (N : Nat) (sT : Ty) (step : ((Int × (Int × Unit)) × Unit) → sT.den → Option (Bool × sT.den)) : LoopOk (i67E N sT step) Try.prog i67l0c (i67l0L N sT step) :=
  loopOkG (L := i67l0L N sT step) (f := fun n g x => i67l0 N sT step n x.2.2.1 x.2.2.2.1 x.2.2.2.2.1 g) (N := N) (LoopsOk.none (by kernel_rfl) (by kernel_rfl)) (by kernel_rfl) (by kernel_rfl) rfl (fun _ _ => rfl) (fun n1 g x => i67l0s N sT step n1 g x.2.2.1 x.2.2.2.1 x.2.2.2.2.1)
theorem i67q (N : Nat) (sT : Ty) (step : ((Int × (Int × Unit)) × Unit) → sT.den → Option (Bool × sT.den)) (c0 : (List Int)) (g : sT.den) : runIter (i67E N sT step) .unit (.pair (.ref (.list I)) .unit) i67c g ((), (c0, ())) = i67F N sT step c0 g := by
  kernel_rfl
theorem i67ok (N : Nat) : IterOk Try.prog globs (i67e N) :=
  iterOk (it := i67e N) (funs := []) (loops := fun sT step => [i67l0L N sT step]) (fn := Try.f67) (c := i67c) (by kernel_rfl) (by kernel_rfl) (by kernel_rfl) (by kernel_rfl) (List.forall_mem_nil _) (fun sT step => (LoopsOk.both (l := [(0, i67l0c)]) (r := []) (by kernel_rfl) (by kernel_rfl) (List.forall_mem_cons.2 ⟨LoopFor.of (L := i67l0L N sT step) (by kernel_rfl) (i67l0ok N sT step) (by kernel_rfl), (List.forall_mem_nil _)⟩) (List.forall_mem_nil _))) (by kernel_rfl) rfl (by kernel_rfl) (fun sT step z g => i67q N sT step z.2.1 g)

/-! f68: shawm/lift.isWithin -/
abbrev f68p : Pat := ⟨[], [(0, .dat I)]⟩
abbrev f68o : Pat := ⟨[], [(0, .dat (.clo 85 .unit (.pair (.ref I) .unit)))]⟩
noncomputable def f68c : Code := (Try.f68.body).getD .skip
def f68F (N : Nat) (t0 : Int) : Option (Unit × ((Unit × (Int × Unit)) × Unit)) :=
  some ((), (((), (t0, ())), ()))
def f68e (N : Nat) : Entry := { f := 68, pre := f68p, post := f68o, F := fun x => f68F N x.2.1 }
noncomputable def f68E (N : Nat) : Env .unit := { P := Try.prog, globs := globs, funs := [], loops := [], ranges := [] }
theorem f68q (N : Nat) (t0 : Int) : runFun (f68E N) f68o.ty f68o (fun _ y => y) Try.f68 f68p () ((), (t0, ())) = f68F N t0 := by
  kernel_rfl
theorem f68ok (N : Nat) : EntryOk Try.prog globs (f68e N) :=
  funOk (E := f68E N) (e := f68e N) (fn := Try.f68) (c := f68c) rfl (by kernel_rfl) (by kernel_rfl) (by kernel_rfl) (by kernel_rfl) rfl rfl (List.forall_mem_nil _) (LoopsOk.none (by kernel_rfl) (by kernel_rfl)) (by kernel_rfl) (by kernel_rfl) (by kernel_rfl) (fun x => f68q N x.2.1)

/-! f69: shawm/lift.isPart -/
abbrev f69p : Pat := ⟨[], [(0, .dat I)]⟩
abbrev f69o : Pat := ⟨[], [(0, .dat .bool)]⟩
noncomputable def f69c : Code := (Try.f69.body).getD .skip
def f69F (N : Nat) (t0 : Int) : Option (Unit × (Bool × Unit)) :=
  bif (decide (1 ≤ t0)) then (
   bif (decide (t0 ≤ 2048)) then (
    some ((), (((IntKind.i64.wrap ((BitVec.ofInt 64 t0 &&& BitVec.ofInt 64 (IntKind.i64.wrap (t0 - 1)))).toNat) == 0), ())))
   else (
    some ((), (false, ()))))
  else (
   some ((), (false, ())))
def f69e (N : Nat) : Entry := { f := 69, pre := f69p, post := f69o, F := fun x => f69F N x.2.1 }
noncomputable def f69E (N : Nat) : Env .unit := { P := Try.prog, globs := globs, funs := [], loops := [], ranges := [] }
theorem f69q (N : Nat) (t0 : Int) : runFun (f69E N) f69o.ty f69o (fun _ y => y) Try.f69 f69p () ((), (t0, ())) = f69F N t0 := by
  kernel_rfl
theorem f69ok (N : Nat) : EntryOk Try.prog globs (f69e N) :=
  funOk (E := f69E N) (e := f69e N) (fn := Try.f69) (c := f69c) rfl (by kernel_rfl) (by kernel_rfl) (by kernel_rfl) (by kernel_rfl) rfl rfl (List.forall_mem_nil _) (LoopsOk.none (by kernel_rfl) (by kernel_rfl)) (by kernel_rfl) (by kernel_rfl) (by kernel_rfl) (fun x => f69q N x.2.1)

/-! f85: shawm/lift.isWithin$1 -/
abbrev f85p : Pat := ⟨[], [(0, .dat I), (1, .dat (.ref I))]⟩
abbrev f85o : Pat := ⟨[], [(0, .dat .bool)]⟩
noncomputable def f85c : Code := (Try.f85.body).getD .skip
def f85F (N : Nat) (t0 : Int) (t1 : Int) : Option (Unit × (Bool × Unit)) :=
  bif (decide ((IntKind.i64.wrap (0 - t1)) ≤ t0)) then (
   some ((), ((decide (t0 ≤ t1)), ())))
  else (
   some ((), (false, ())))
def f85e (N : Nat) : Entry := { f := 85, pre := f85p, post := f85o, F := fun x => f85F N x.2.1 x.2.2.1 }
noncomputable def f85E (N : Nat) : Env .unit := { P := Try.prog, globs := globs, funs := [], loops := [], ranges := [] }
theorem f85q (N : Nat) (t0 : Int) (t1 : Int) : runFun (f85E N) f85o.ty f85o (fun _ y => y) Try.f85 f85p () ((), (t0, (t1, ()))) = f85F N t0 t1 := by
  kernel_rfl
theorem f85ok (N : Nat) : EntryOk Try.prog globs (f85e N) :=
  funOk (E := f85E N) (e := f85e N) (fn := Try.f85) (c := f85c) rfl (by kernel_rfl) (by kernel_rfl) (by kernel_rfl) (by kernel_rfl) rfl rfl (List.forall_mem_nil _) (LoopsOk.none (by kernel_rfl) (by kernel_rfl)) (by kernel_rfl) (by kernel_rfl) (by kernel_rfl) (fun x => f85q N x.2.1 x.2.2.1)

/-! f92: shawm/fixed.part -/
abbrev f92p : Pat := ⟨[], [(0, .dat I), (1, .dat I)]⟩
abbrev f92o : Pat := ⟨[], [(0, .dat (.agg (.pair I (.pair I (.pair I .unit))))), (1, .dat I)]⟩
noncomputable def f92c : Code := (Try.f92.body).getD .skip
def f92F (N : Nat) (t0 : Int) (t1 : Int) : Option (Unit × ((Int × (Int × (Int × Unit))) × (Int × Unit))) :=
  bif (decide (t1 < 1)) then (
   some ((), ((0, (0, (0, ()))), (1, ()))))
  else (
   bif (decide (16384 < t1)) then (
    some ((), ((0, (0, (0, ()))), (1, ()))))
   else (
    bif ((IntKind.i64.wrap ((BitVec.ofInt 64 t1 &&& BitVec.ofInt 64 (IntKind.i64.wrap (t1 - 1)))).toNat) != 0) then (
     some ((), ((0, (0, (0, ()))), (1, ()))))
    else (
     bif (decide (t0 < (-1099511627776))) then (
      some ((), ((0, (0, (0, ()))), (6, ()))))
     else (
      bif (decide (1099511627776 < t0)) then (
       some ((), ((0, (0, (0, ()))), (6, ()))))
      else (
       bif (!(t1 == 0)) then (
        some ((), (((IntKind.i64.wrap (Int.tdiv (IntKind.i64.wrap ((IntKind.i64.wrap (Int.tdiv (IntKind.i64.wrap (8 * (IntKind.i64.wrap ((BitVec.ofInt 64 t0 &&& BitVec.ofInt 64 (IntKind.i64.wrap (t1 - 1)))).toNat))) t1)) + 1)) 2)), ((IntKind.i64.wrap ((IntKind.i64.wrap (8 * (IntKind.i64.wrap ((BitVec.ofInt 64 t0 &&& BitVec.ofInt 64 (IntKind.i64.wrap (t1 - 1)))).toNat))) - (IntKind.i64.wrap ((IntKind.i64.wrap (2 * (IntKind.i64.wrap (Int.tdiv (IntKind.i64.wrap ((IntKind.i64.wrap (Int.tdiv (IntKind.i64.wrap (8 * (IntKind.i64.wrap ((BitVec.ofInt 64 t0 &&& BitVec.ofInt 64 (IntKind.i64.wrap (t1 - 1)))).toNat))) t1)) + 1)) 2)))) * t1)))), ((IntKind.i64.wrap (8 * t1)), ()))), (0, ()))))
       else (
        none))))))
def f92e (N : Nat) : Entry := { f := 92, pre := f92p, post := f92o, F := fun x => f92F N x.2.1 x.2.2.1 }
noncomputable def f92E (N : Nat) : Env .unit := { P := Try.prog, globs := globs, funs := [], loops := [], ranges := [] }
theorem f92q (N : Nat) (t0 : Int) (t1 : Int) : runFun (f92E N) f92o.ty f92o (fun _ y => y) Try.f92 f92p () ((), (t0, (t1, ()))) = f92F N t0 t1 := by
  kernel_rfl
theorem f92ok (N : Nat) : EntryOk Try.prog globs (f92e N) :=
  funOk (E := f92E N) (e := f92e N) (fn := Try.f92) (c := f92c) rfl (by kernel_rfl) (by kernel_rfl) (by kernel_rfl) (by kernel_rfl) rfl rfl (List.forall_mem_nil _) (LoopsOk.none (by kernel_rfl) (by kernel_rfl)) (by kernel_rfl) (by kernel_rfl) (by kernel_rfl) (fun x => f92q N x.2.1 x.2.2.1)

/-! f99: shawm/fixed.series -/
abbrev f99p : Pat := ⟨[], [(0, .dat I), (1, .dat I)]⟩
abbrev f99o : Pat := ⟨[], [(0, .dat (.clo 101 .unit (.pair (.ref I) (.pair (.ref I) .unit))))]⟩
noncomputable def f99c : Code := (Try.f99.body).getD .skip
def f99F (N : Nat) (t0 : Int) (t1 : Int) : Option (Unit × ((Unit × (Int × (Int × Unit))) × Unit)) :=
  some ((), (((), (t1, (t0, ()))), ()))
def f99e (N : Nat) : Entry := { f := 99, pre := f99p, post := f99o, F := fun x => f99F N x.2.1 x.2.2.1 }
noncomputable def f99E (N : Nat) : Env .unit := { P := Try.prog, globs := globs, funs := [], loops := [], ranges := [] }
theorem f99q (N : Nat) (t0 : Int) (t1 : Int) : runFun (f99E N) f99o.ty f99o (fun _ y => y) Try.f99 f99p () ((), (t0, (t1, ()))) = f99F N t0 t1 := by
  kernel_rfl
theorem f99ok (N : Nat) : EntryOk Try.prog globs (f99e N) :=
  funOk (E := f99E N) (e := f99e N) (fn := Try.f99) (c := f99c) rfl (by kernel_rfl) (by kernel_rfl) (by kernel_rfl) (by kernel_rfl) rfl rfl (List.forall_mem_nil _) (LoopsOk.none (by kernel_rfl) (by kernel_rfl)) (by kernel_rfl) (by kernel_rfl) (by kernel_rfl) (fun x => f99q N x.2.1 x.2.2.1)

/-! i101: shawm/fixed.series$1 -/
noncomputable def i101c : Code := (Try.f101.body).getD .skip
noncomputable def i101l0c : Code := (((loopsIn 0 i101c)[0]?).map (·.2)).getD .skip
abbrev i101l0p : Pat := ⟨[], [(0, .yld), (2, .dat (.ref I)), (4, .dat I), (5, .dat I)]⟩
abbrev i101l0x : List (Ex × Pat) := [(.exit 0, ⟨[], []⟩), (.ret, ⟨[], []⟩)]
def i101l0 (N : Nat) (sT : Ty) (step : (Int × Unit) → sT.den → Option (Bool × sT.den)) : Nat → Int → Int → Int → sT.den → Option (sT.den × ((Unit × Unit) ⊕ (Unit × Unit)))
  | 0, _, _, _, _ => none
  | n + 1, t2, t4, t5, g =>
    bif (t4 != 0) then (
     (step (t4, ()) g).bind fun r1 =>
     bif (!r1.1) then (
      some (r1.2, (Sum.inr ((), ()))))
     else (
      bif (!((IntKind.i64.wrap ((IntKind.i64.wrap (t5 + 1)) * (IntKind.i64.wrap (t5 + 2)))) == 0)) then (
       (i101l0 N sT step n t2 (IntKind.i64.wrap (Int.tdiv (IntKind.i64.wrap (0 - (IntKind.i64.wrap (Int.tdiv (IntKind.i64.wrap ((IntKind.i64.wrap (Int.tdiv (IntKind.i64.wrap (t4 * t2)) 2147483648)) * t2)) 2147483648)))) (IntKind.i64.wrap ((IntKind.i64.wrap (t5 + 1)) * (IntKind.i64.wrap (t5 + 2)))))) (IntKind.i64.wrap (t5 + 2)) r1.2).bind some)
      else (
       none)))
    else (
     some (g, (Sum.inl ((), ()))))
def i101l0L (N : Nat) (sT : Ty) (step : (Int × Unit) → sT.den → Option (Bool × sT.den)) : LoopE sT := { blk := 0, pre := i101l0p, exits := i101l0x, wr := [4,5,10,11,12,13,14,15,16,17,18,19,20,21,22,23,24,25,26,27,28,29,30,31], F := fun _ => none, G := some fun g x => i101l0 N sT step N x.2.2.1 x.2.2.2.1 x.2.2.2.2.1 g }
def i101F (N : Nat) (sT : Ty) (step : (Int × Unit) → sT.den → Option (Bool × sT.den)) (c0 : Int) (c1 : Int) (g : sT.den) : Option sT.den :=
  bif (c0 == 1) then (
   (i101l0 N sT step N c1 c1 c0 g).bind fun y2 =>
   Sum.elim (fun u3 =>
     some y2.1)
    (fun w4 =>
     some y2.1) y2.2)
  else (
   (i101l0 N sT step N c1 2147483648 c0 g).bind fun y5 =>
   Sum.elim (fun u6 =>
     some y5.1)
    (fun w7 =>
     some y5.1) y5.2)
def i101e (N : Nat) : IterE := { f := 101, a := .unit, b := (.pair (.ref I) (.pair (.ref I) .unit)), Y := (.pair I .unit), F := fun sT step z g => i101F N sT step z.2.1 z.2.2.1 g }
noncomputable def i101E (N : Nat) (sT : Ty) (step : (Int × Unit) → sT.den → Option (Bool × sT.den)) : Env sT := iterEnv Try.prog globs [] (.pair I .unit) [i101l0L N sT step] step
theorem i101l0s (N : Nat) (sT : Ty) (step : (Int × Unit) → sT.den → Option (Bool × sT.den)) (n1 : Nat) (g : sT.den) (t2 : Int) (t4 : Int) (t5 : Int) : runLoop (sT := sT) (i101E N sT step) (.pair sT (sumTy i101l0x)) i101l0x (fun g y => (g, y)) i101l0c i101l0p (fun g x => i101l0 N sT step n1 x.2.2.1 x.2.2.2.1 x.2.2.2.2.1 g) g ((), ((), (t2, (t4, (t5, ()))))) = i101l0 N sT step (n1 + 1) t2 t4 t5 g := by
  kernel_rfl
theorem i101l0ok (N : Nat) (sT : Ty) (step : (Int × Unit) → sT.den → Option (Bool × sT.den)) : LoopOk (i101E N sT step) Try.prog i101l0c (i101l0L N sT step) :=
  loopOkG (L := i101l0L N sT step) (f := fun n g x => i101l0 N sT step n x.2.2.1 x.2.2.2.1 x.2.2.2.2.1 g) (N := N) (LoopsOk.none (by kernel_rfl) (by kernel_rfl)) (by kernel_rfl) (by kernel_rfl) rfl (fun _ _ => rfl) (fun n1 g x => i101l0s N sT step n1 g x.2.2.1 x.2.2.2.1 x.2.2.2.2.1)
theorem i101q (N : Nat) (sT : Ty) (step : (Int × Unit) → sT.den → Option (Bool × sT.den)) (c0 : Int) (c1 : Int) (g : sT.den) : runIter (i101E N sT step) .unit (.pair (.ref I) (.pair (.ref I) .unit)) i101c g ((), (c0, (c1, ()))) = i101F N sT step c0 c1 g := by
  kernel_rfl
theorem i101ok (N : Nat) : IterOk Try.prog globs (i101e N) :=
  iterOk (it := i101e N) (funs := []) (loops := fun sT step => [i101l0L N sT step]) (fn := Try.f101) (c := i101c) (by kernel_rfl) (by kernel_rfl) (by kernel_rfl) (by kernel_rfl) (List.forall_mem_nil _) (fun sT step => (LoopsOk.both (l := [(0, i101l0c)]) (r := []) (by kernel_rfl) (by kernel_rfl) (List.forall_mem_cons.2 ⟨LoopFor.of (L := i101l0L N sT step) (by kernel_rfl) (i101l0ok N sT step) (by kernel_rfl), (List.forall_mem_nil _)⟩) (List.forall_mem_nil _))) (by kernel_rfl) rfl (by kernel_rfl) (fun sT step z g => i101q N sT step z.2.1 z.2.2.1 g)

/-! f98: shawm/fixed.total -/
abbrev f98p : Pat := ⟨[], [(0, .dat (.clo 101 .unit (.pair (.ref I) (.pair (.ref I) .unit))))]⟩
abbrev f98o : Pat := ⟨[], [(0, .dat I)]⟩
noncomputable def f98c : Code := (Try.f98.body).getD .skip
noncomputable def f98r0q : RangeC := ((rangesIn 0 f98c)[0]?).getD ⟨0, .tmp 0, #[], .skip, .skip⟩
noncomputable def f98r0b : Code := f98r0q.body
abbrev f98r0p : Pat := ⟨[.box [.dat I]], [(3, .bptr 0)]⟩
abbrev f98r0x : List (Ex × Pat) := []
def f98r0c (N : Nat) (y_0 : Int) (b0_0 : Int) : Option (((Int × Unit) × Unit) ⊕ Unit) :=
  some (Sum.inl (((IntKind.i64.wrap (b0_0 + y_0)), ()), ()))
def f98r0d (N : Nat) (y : (Int × Unit)) (x : (((Int × Unit) × Unit) × (Unit × Unit))) : Option (((Int × Unit) × Unit) ⊕ Unit) := f98r0c N y.1 x.1.1.1
def f98r0F (N : Nat) (c : (Unit × (Int × (Int × Unit)))) (b0_0 : Int) : Option (((Int × Unit) × Unit) × Unit) := (i101F N (.sum (.pair (.pair I .unit) .unit) .unit) (stepRound fun y o => f98r0d N y (o, ((), ()))) c.2.1 c.2.2.1 (Sum.inl ((b0_0, ()), ()))).bind (finish f98r0p f98r0x)
def f98r0R (N : Nat) : RangeE := rangeE 0 (i101e N) f98r0p f98r0x (f98r0d N)
def f98F (N : Nat) (t0 : (Unit × (Int × (Int × Unit)))) : Option (Unit × (Int × Unit)) :=
  (f98r0F N t0 0).bind fun y1 =>
  some ((), (y1.1.1.1, ()))
def f98e (N : Nat) : Entry := { f := 98, pre := f98p, post := f98o, F := fun x => f98F N x.2.1 }
noncomputable def f98E (N : Nat) : Env .unit := { P := Try.prog, globs := globs, funs := [], loops := [], ranges := [f98r0R N] }
theorem f98r0s (N : Nat) (g : Unit) (y_0 : Int) (b0_0 : Int) : runRound (sT := .unit) (f98E N) f98r0p f98r0x f98r0q.ps.toList f98r0q.assign f98r0q.body (i101e N).Y g (y_0, ()) (((b0_0, ()), ()), ((), ())) = f98r0d N (y_0, ()) (((b0_0, ()), ()), ((), ())) := by
  kernel_rfl
theorem f98r0ok (N : Nat) : RangeOk (f98E N) Try.prog f98r0q.f f98r0q.ps f98r0q.assign f98r0q.body (f98r0R N) :=
  rangeOk (E := f98E N) (it := i101e N) (pre := f98r0p) (exits := f98r0x) (round := f98r0d N) (i101ok N) rfl (fun g y x => f98r0s N g y.1 x.1.1.1) (LoopsOk.none (by kernel_rfl) (by kernel_rfl)) (LoopsOk.none (by kernel_rfl) (by kernel_rfl)) (by kernel_rfl) (by kernel_rfl) (by kernel_rfl) (by kernel_rfl)
theorem f98q (N : Nat) (t0 : (Unit × (Int × (Int × Unit)))) : runFun (f98E N) f98o.ty f98o (fun _ y => y) Try.f98 f98p () ((), (t0, ())) = f98F N t0 := by
  kernel_rfl
theorem f98ok (N : Nat) : EntryOk Try.prog globs (f98e N) :=
  funOk (E := f98E N) (e := f98e N) (fn := Try.f98) (c := f98c) rfl (by kernel_rfl) (by kernel_rfl) (by kernel_rfl) (by kernel_rfl) rfl rfl (List.forall_mem_nil _) (LoopsOk.both (l := []) (r := [f98r0q]) (by kernel_rfl) (by kernel_rfl) (List.forall_mem_nil _) (List.forall_mem_cons.2 ⟨RangeFor.of (L := f98r0R N) (by kernel_rfl) (f98r0ok N) rfl, (List.forall_mem_nil _)⟩)) (by kernel_rfl) (by kernel_rfl) (by kernel_rfl) (fun x => f98q N x.2.1)

/-! f97: (shawm/fixed.angle).circle$1 -/
abbrev f97p : Pat := ⟨[], [(0, .dat I), (1, .dat (.ref (.agg (.pair I (.pair I (.pair I .unit))))))]⟩
abbrev f97o : Pat := ⟨[], [(0, .dat I)]⟩
noncomputable def f97c : Code := (Try.f97.body).getD .skip
def f97F (N : Nat) (t0 : Int) (t1 : (Int × (Int × (Int × Unit)))) : Option (Unit × (Int × Unit)) :=
  bif (decide (t1.2.1 < 0)) then (
   some ((), ((IntKind.i64.wrap (0 - t0)), ())))
  else (
   some ((), (t0, ())))
def f97e (N : Nat) : Entry := { f := 97, pre := f97p, post := f97o, F := fun x => f97F N x.2.1 x.2.2.1 }
noncomputable def f97E (N : Nat) : Env .unit := { P := Try.prog, globs := globs, funs := [], loops := [], ranges := [] }
theorem f97q (N : Nat) (t0 : Int) (t1 : (Int × (Int × (Int × Unit)))) : runFun (f97E N) f97o.ty f97o (fun _ y => y) Try.f97 f97p () ((), (t0, (t1, ()))) = f97F N t0 t1 := by
  kernel_rfl
theorem f97ok (N : Nat) : EntryOk Try.prog globs (f97e N) :=
  funOk (E := f97E N) (e := f97e N) (fn := Try.f97) (c := f97c) rfl (by kernel_rfl) (by kernel_rfl) (by kernel_rfl) (by kernel_rfl) rfl rfl (List.forall_mem_nil _) (LoopsOk.none (by kernel_rfl) (by kernel_rfl)) (by kernel_rfl) (by kernel_rfl) (by kernel_rfl) (fun x => f97q N x.2.1 x.2.2.1)

/-! f93: (shawm/fixed.angle).circle -/
abbrev f93p : Pat := ⟨[], [(0, .dat (.agg (.pair I (.pair I (.pair I .unit)))))]⟩
abbrev f93o : Pat := ⟨[], [(0, .dat (.agg (.pair I (.pair I .unit))))]⟩
noncomputable def f93c : Code := (Try.f93.body).getD .skip
noncomputable def f93l0c : Code := (((loopsIn 0 f93c)[0]?).map (·.2)).getD .skip
abbrev f93l0p : Pat := ⟨[.box [.dat I, .dat I]], [(5, .bptr 0), (31, .dat I), (32, .dat I)]⟩
abbrev f93l0x : List (Ex × Pat) := [(.exit 0, ⟨[.box [.dat I, .dat I]], []⟩)]
def f93l0 (N : Nat) : Nat → Int → Int → Int → Int → Option (((Int × (Int × Unit)) × Unit) × Unit)
  | 0, _, _, _, _ => none
  | n + 1, b0_0, b0_1, t31, t32 =>
    bif (decide (t32 < t31)) then (
     (f93l0 N n (IntKind.i64.wrap (0 - b0_1)) b0_0 t31 (IntKind.i64.wrap (t32 + 1))).bind some)
    else (
     some (((b0_0, (b0_1, ())), ()), ()))
def f93l0L (N : Nat) : LoopE .unit := { blk := 0, pre := f93l0p, exits := f93l0x, wr := [32,33,34,35,36,37,38,39,40], F := fun x => f93l0 N N x.1.1.1 x.1.1.2.1 x.2.2.1 x.2.2.2.1 }
def f93F (N : Nat) (t0 : (Int × (Int × (Int × Unit)))) : Option (Unit × ((Int × (Int × Unit)) × Unit)) :=
  bif (!(t0.2.2.1 == 0)) then (
   (f99F N (IntKind.i64.wrap (Int.tdiv (IntKind.i64.wrap ((IntKind.i64.wrap (13493037704 * (if (IntKind.i64.wrap (0 - t0.2.1)) > t0.2.1 then (IntKind.i64.wrap (0 - t0.2.1)) else t0.2.1))) + (IntKind.i64.wrap (Int.tdiv t0.2.2.1 2)))) t0.2.2.1)) 0).bind fun y1 =>
   (f98F N y1.2.1).bind fun y2 =>
   (f99F N (IntKind.i64.wrap (Int.tdiv (IntKind.i64.wrap ((IntKind.i64.wrap (13493037704 * (if (IntKind.i64.wrap (0 - t0.2.1)) > t0.2.1 then (IntKind.i64.wrap (0 - t0.2.1)) else t0.2.1))) + (IntKind.i64.wrap (Int.tdiv t0.2.2.1 2)))) t0.2.2.1)) 1).bind fun y3 =>
   (f98F N y3.2.1).bind fun y4 =>
   (f97F N y4.2.1 (t0.1, (t0.2.1, (t0.2.2.1, ())))).bind fun y5 =>
   (f93l0 N N y2.2.1 y5.2.1 t0.1 0).bind fun y6 =>
   some ((), ((y6.1.1.1, (y6.1.1.2.1, ())), ())))
  else (
   none)
def f93e (N : Nat) : Entry := { f := 93, pre := f93p, post := f93o, F := fun x => f93F N x.2.1 }
noncomputable def f93E (N : Nat) : Env .unit := { P := Try.prog, globs := globs, funs := [f99e N, f98e N, f97e N], loops := [f93l0L N], ranges := [] }
theorem f93l0s (N : Nat) (n1 : Nat) (g : Unit) (b0_0 : Int) (b0_1 : Int) (t31 : Int) (t32 : Int) : runLoop (sT := .unit) (f93E N) (sumTy f93l0x) f93l0x (fun _ y => y) f93l0c f93l0p (fun _ x => f93l0 N n1 x.1.1.1 x.1.1.2.1 x.2.2.1 x.2.2.2.1) g (((b0_0, (b0_1, ())), ()), ((), (t31, (t32, ())))) = f93l0 N (n1 + 1) b0_0 b0_1 t31 t32 := by
  kernel_rfl
theorem f93l0ok (N : Nat) : LoopOk (f93E N) Try.prog f93l0c (f93l0L N) :=
  loopOk (L := f93l0L N) (f := fun n x => f93l0 N n x.1.1.1 x.1.1.2.1 x.2.2.1 x.2.2.2.1) (N := N) (LoopsOk.none (by kernel_rfl) (by kernel_rfl)) (by kernel_rfl) (by kernel_rfl) rfl rfl (fun _ => rfl) (fun n1 g x => f93l0s N n1 g x.1.1.1 x.1.1.2.1 x.2.2.1 x.2.2.2.1)
theorem f93q (N : Nat) (t0 : (Int × (Int × (Int × Unit)))) : runFun (f93E N) f93o.ty f93o (fun _ y => y) Try.f93 f93p () ((), (t0, ())) = f93F N t0 := by
  kernel_rfl
theorem f93ok (N : Nat) : EntryOk Try.prog globs (f93e N) :=
  funOk (E := f93E N) (e := f93e N) (fn := Try.f93) (c := f93c) rfl (by kernel_rfl) (by kernel_rfl) (by kernel_rfl) (by kernel_rfl) rfl rfl (List.forall_mem_cons.2 ⟨f99ok N, (List.forall_mem_cons.2 ⟨f98ok N, (List.forall_mem_cons.2 ⟨f97ok N, (List.forall_mem_nil _)⟩)⟩)⟩) (LoopsOk.both (l := [(0, f93l0c)]) (r := []) (by kernel_rfl) (by kernel_rfl) (List.forall_mem_cons.2 ⟨LoopFor.of (L := f93l0L N) (by kernel_rfl) (f93l0ok N) (by kernel_rfl), (List.forall_mem_nil _)⟩) (List.forall_mem_nil _)) (by kernel_rfl) (by kernel_rfl) (by kernel_rfl) (fun x => f93q N x.2.1)

/-! f86: shawm/fixed.Half -/
abbrev f86p : Pat := ⟨[], [(0, .dat I), (1, .dat I)]⟩
abbrev f86o : Pat := ⟨[], [(0, .dat I), (1, .dat I)]⟩
noncomputable def f86c : Code := (Try.f86.body).getD .skip
def f86F (N : Nat) : Nat → Int → Int → Option (Unit × (Int × (Int × Unit)))
  | 0, _, _ => none
  | n + 1, t0, t1 =>
    (f92F N t0 t1).bind fun y1 =>
    bif (y1.2.2.1 != 0) then (
     some ((), (0, (y1.2.2.1, ()))))
    else (
     bif (decide ((IntKind.i64.wrap (8 * t0)) < (IntKind.i64.wrap (0 - t1)))) then (
      some ((), (0, (6, ()))))
     else (
      bif (decide (t1 < (IntKind.i64.wrap (8 * t0)))) then (
       some ((), (0, (6, ()))))
      else (
       bif (decide (t0 < 0)) then (
        (f86F N n (IntKind.i64.wrap (0 - t0)) t1).bind fun y2 =>
        some ((), ((IntKind.i64.wrap (0 - y2.2.1)), (y2.2.2.1, ()))))
       else (
        (f93F N (0, ((IntKind.i64.wrap (8 * t0)), ((IntKind.i64.wrap (8 * t1)), ())))).bind fun y3 =>
        bif (!((IntKind.i64.wrap (2 * (IntKind.i64.wrap (2147483648 + y3.2.1.1)))) == 0)) then (
         some ((), ((IntKind.i64.wrap (Int.tdiv (IntKind.i64.wrap ((IntKind.i64.wrap (32768 * y3.2.1.2.1)) + (IntKind.i64.wrap (2147483648 + y3.2.1.1)))) (IntKind.i64.wrap (2 * (IntKind.i64.wrap (2147483648 + y3.2.1.1)))))), (0, ()))))
        else (
         none)))))
def f86e (N n : Nat) : Entry := { f := 86, pre := f86p, post := f86o, F := fun x => f86F N n x.2.1 x.2.2.1 }
noncomputable def f86E (N n : Nat) : Env .unit := { P := Try.prog, globs := globs, funs := [f92e N, f86e N n, f93e N], loops := [], ranges := [] }
theorem f86q (N n : Nat) (t0 : Int) (t1 : Int) : runFun (f86E N n) f86o.ty f86o (fun _ y => y) Try.f86 f86p () ((), (t0, (t1, ()))) = f86F N (n + 1) t0 t1 := by
  kernel_rfl
theorem f86ok (N : Nat) : ∀ n, EntryOk Try.prog globs (f86e N n) := by
  intro n
  induction n with
  | zero => exact EntryOk.zero (by kernel_rfl : Try.prog.funcs[86]? = some Try.f86) (by kernel_rfl : Try.f86.body = some f86c) (by kernel_rfl) (fun _ => rfl)
  | succ n ih =>
    refine funOk (E := f86E N n) (e := f86e N (n + 1)) (fn := Try.f86) (c := f86c) rfl (by kernel_rfl) (by kernel_rfl) (by kernel_rfl) (by kernel_rfl) rfl rfl (List.forall_mem_cons.2 ⟨f92ok N, (List.forall_mem_cons.2 ⟨ih, (List.forall_mem_cons.2 ⟨f93ok N, (List.forall_mem_nil _)⟩)⟩)⟩) (LoopsOk.none (by kernel_rfl) (by kernel_rfl)) (by kernel_rfl) (by kernel_rfl) (by kernel_rfl) (fun x => f86q N n x.2.1 x.2.2.1)

end Go.Sh.c08

namespace Go.Sh.c08
open Go.Proofs

/-! f94: shawm/fixed.told -/
abbrev f94p : Pat := ⟨[], [(0, .dat I)]⟩
abbrev f94o : Pat := ⟨[], [(0, .dat I)]⟩
noncomputable def f94c : Code := (Try.f94.body).getD .skip
def f94F (N : Nat) : Nat → Int → Option (Unit × (Int × Unit))
  | 0, _ => none
  | n + 1, t0 =>
    bif (decide (t0 < 0)) then (
     (f94F N n (IntKind.i64.wrap (0 - t0))).bind fun y1 =>
     some ((), ((IntKind.i64.wrap (0 - y1.2.1)), ())))
    else (
     some ((), ((Int.fdiv (IntKind.i64.wrap (t0 + 65536)) (2 ^ 17)), ())))
def f94e (N n : Nat) : Entry := { f := 94, pre := f94p, post := f94o, F := fun x => f94F N n x.2.1 }
noncomputable def f94E (N n : Nat) : Env .unit := { P := Try.prog, globs := globs, funs := [f94e N n], loops := [], ranges := [] }
theorem f94q (N n : Nat) (t0 : Int) : runFun (f94E N n) f94o.ty f94o (fun _ y => y) Try.f94 f94p () ((), (t0, ())) = f94F N (n + 1) t0 := by
  kernel_rfl
theorem f94ok (N : Nat) : ∀ n, EntryOk Try.prog globs (f94e N n) := by
  intro n
  induction n with
  | zero => exact EntryOk.zero (by kernel_rfl : Try.prog.funcs[94]? = some Try.f94) (by kernel_rfl : Try.f94.body = some f94c) (by kernel_rfl) (fun _ => rfl)
  | succ n ih =>
    refine funOk (E := f94E N n) (e := f94e N (n + 1)) (fn := Try.f94) (c := f94c) rfl (by kernel_rfl) (by kernel_rfl) (by kernel_rfl) (by kernel_rfl) rfl rfl (List.forall_mem_cons.2 ⟨ih, (List.forall_mem_nil _)⟩) (LoopsOk.none (by kernel_rfl) (by kernel_rfl)) (by kernel_rfl) (by kernel_rfl) (by kernel_rfl) (fun x => f94q N n x.2.1)

/-! f87: shawm/fixed.Sin -/
abbrev f87p : Pat := ⟨[], [(0, .dat I), (1, .dat I)]⟩
abbrev f87o : Pat := ⟨[], [(0, .dat I), (1, .dat I)]⟩
noncomputable def f87c : Code := (Try.f87.body).getD .skip
def f87F (N : Nat) (t0 : Int) (t1 : Int) : Option (Unit × (Int × (Int × Unit))) :=
  (f92F N t0 t1).bind fun y1 =>
  bif (y1.2.2.1 != 0) then (
   some ((), (0, (y1.2.2.1, ()))))
  else (
   (f93F N (y1.2.1.1, (y1.2.1.2.1, (y1.2.1.2.2.1, ())))).bind fun y2 =>
   (f94F N N y2.2.1.2.1).bind fun y3 =>
   some ((), (y3.2.1, (0, ()))))
def f87e (N : Nat) : Entry := { f := 87, pre := f87p, post := f87o, F := fun x => f87F N x.2.1 x.2.2.1 }
noncomputable def f87E (N : Nat) : Env .unit := { P := Try.prog, globs := globs, funs := [f92e N, f93e N, f94e N N], loops := [], ranges := [] }
theorem f87q (N : Nat) (t0 : Int) (t1 : Int) : runFun (f87E N) f87o.ty f87o (fun _ y => y) Try.f87 f87p () ((), (t0, (t1, ()))) = f87F N t0 t1 := by
  kernel_rfl
theorem f87ok (N : Nat) : EntryOk Try.prog globs (f87e N) :=
  funOk (E := f87E N) (e := f87e N) (fn := Try.f87) (c := f87c) rfl (by kernel_rfl) (by kernel_rfl) (by kernel_rfl) (by kernel_rfl) rfl rfl (List.forall_mem_cons.2 ⟨f92ok N, (List.forall_mem_cons.2 ⟨f93ok N, (List.forall_mem_cons.2 ⟨f94ok N N, (List.forall_mem_nil _)⟩)⟩)⟩) (LoopsOk.none (by kernel_rfl) (by kernel_rfl)) (by kernel_rfl) (by kernel_rfl) (by kernel_rfl) (fun x => f87q N x.2.1 x.2.2.1)

/-! f70: shawm/lift.of -/
abbrev f70p : Pat := ⟨[], [(0, .dat I), (1, .dat I)]⟩
abbrev f70o : Pat := ⟨[], [(0, .dat (.agg (.pair I (.pair I (.pair I .unit)))))]⟩
noncomputable def f70c : Code := (Try.f70.body).getD .skip
def f70F (N : Nat) (t0 : Int) (t1 : Int) : Option (Unit × ((Int × (Int × (Int × Unit))) × Unit)) :=
  bif (!((IntKind.i64.wrap (2 * t1)) == 0)) then (
   (f86F N N (IntKind.i64.wrap ((IntKind.i64.wrap (8 * (IntKind.i64.wrap ((BitVec.ofInt 64 t0 &&& BitVec.ofInt 64 (IntKind.i64.wrap (t1 - 1)))).toNat))) - (IntKind.i64.wrap ((IntKind.i64.wrap (2 * (IntKind.i64.wrap (Int.tdiv (IntKind.i64.wrap ((IntKind.i64.wrap ((IntKind.i64.wrap (8 * (IntKind.i64.wrap ((BitVec.ofInt 64 t0 &&& BitVec.ofInt 64 (IntKind.i64.wrap (t1 - 1)))).toNat))) + t1)) - 1)) (IntKind.i64.wrap (2 * t1)))))) * t1)))) (IntKind.i64.wrap (8 * t1))).bind fun y1 =>
   (f87F N (IntKind.i64.wrap ((IntKind.i64.wrap (8 * (IntKind.i64.wrap ((BitVec.ofInt 64 t0 &&& BitVec.ofInt 64 (IntKind.i64.wrap (t1 - 1)))).toNat))) - (IntKind.i64.wrap ((IntKind.i64.wrap (2 * (IntKind.i64.wrap (Int.tdiv (IntKind.i64.wrap ((IntKind.i64.wrap ((IntKind.i64.wrap (8 * (IntKind.i64.wrap ((BitVec.ofInt 64 t0 &&& BitVec.ofInt 64 (IntKind.i64.wrap (t1 - 1)))).toNat))) + t1)) - 1)) (IntKind.i64.wrap (2 * t1)))))) * t1)))) (IntKind.i64.wrap (8 * t1))).bind fun y2 =>
   some ((), (((IntKind.i64.wrap (Int.tdiv (IntKind.i64.wrap ((IntKind.i64.wrap ((IntKind.i64.wrap (8 * (IntKind.i64.wrap ((BitVec.ofInt 64 t0 &&& BitVec.ofInt 64 (IntKind.i64.wrap (t1 - 1)))).toNat))) + t1)) - 1)) (IntKind.i64.wrap (2 * t1)))), (y1.2.1, (y2.2.1, ()))), ())))
  else (
   none)
def f70e (N : Nat) : Entry := { f := 70, pre := f70p, post := f70o, F := fun x => f70F N x.2.1 x.2.2.1 }
noncomputable def f70E (N : Nat) : Env .unit := { P := Try.prog, globs := globs, funs := [f86e N N, f87e N], loops := [], ranges := [] }
theorem f70q (N : Nat) (t0 : Int) (t1 : Int) : runFun (f70E N) f70o.ty f70o (fun _ y => y) Try.f70 f70p () ((), (t0, (t1, ()))) = f70F N t0 t1 := by
  kernel_rfl
theorem f70ok (N : Nat) : EntryOk Try.prog globs (f70e N) :=
  funOk (E := f70E N) (e := f70e N) (fn := Try.f70) (c := f70c) rfl (by kernel_rfl) (by kernel_rfl) (by kernel_rfl) (by kernel_rfl) rfl rfl (List.forall_mem_cons.2 ⟨f86ok N N, (List.forall_mem_cons.2 ⟨f87ok N, (List.forall_mem_nil _)⟩)⟩) (LoopsOk.none (by kernel_rfl) (by kernel_rfl)) (by kernel_rfl) (by kernel_rfl) (by kernel_rfl) (fun x => f70q N x.2.1 x.2.2.1)

/-! f49: shawm/lift.Turn$1 -/
abbrev f49p : Pat := ⟨[], [(0, .dat (.agg (.pair I (.pair I (.pair I .unit)))))]⟩
abbrev f49o : Pat := ⟨[], [(0, .dat (.clo 50 (.pair (.agg (.pair I (.pair I (.pair I .unit)))) .unit) .unit))]⟩
noncomputable def f49c : Code := (Try.f49.body).getD .skip
def f49F (N : Nat) (t0 : (Int × (Int × (Int × Unit)))) : Option (Unit × ((((Int × (Int × (Int × Unit))) × Unit) × Unit) × Unit)) :=
  some ((), ((((t0.1, (t0.2.1, (t0.2.2.1, ()))), ()), ()), ()))
def f49e (N : Nat) : Entry := { f := 49, pre := f49p, post := f49o, F := fun x => f49F N x.2.1 }
noncomputable def f49E (N : Nat) : Env .unit := { P := Try.prog, globs := globs, funs := [], loops := [], ranges := [] }
theorem f49q (N : Nat) (t0 : (Int × (Int × (Int × Unit)))) : runFun (f49E N) f49o.ty f49o (fun _ y => y) Try.f49 f49p () ((), (t0, ())) = f49F N t0 := by
  kernel_rfl
theorem f49ok (N : Nat) : EntryOk Try.prog globs (f49e N) :=
  funOk (E := f49E N) (e := f49e N) (fn := Try.f49) (c := f49c) rfl (by kernel_rfl) (by kernel_rfl) (by kernel_rfl) (by kernel_rfl) rfl rfl (List.forall_mem_nil _) (LoopsOk.none (by kernel_rfl) (by kernel_rfl)) (by kernel_rfl) (by kernel_rfl) (by kernel_rfl) (fun x => f49q N x.2.1)

/-! f88: shawm/lift.scaled -/
abbrev f88p : Pat := ⟨[], [(0, .dat I), (1, .dat I)]⟩
abbrev f88o : Pat := ⟨[], [(0, .dat I)]⟩
noncomputable def f88c : Code := (Try.f88.body).getD .skip
def f88F (N : Nat) (t0 : Int) (t1 : Int) : Option (Unit × (Int × Unit)) :=
  some ((), ((Int.fdiv (IntKind.i64.wrap ((IntKind.i64.wrap (t0 * t1)) + 8192)) (2 ^ 14)), ()))
def f88e (N : Nat) : Entry := { f := 88, pre := f88p, post := f88o, F := fun x => f88F N x.2.1 x.2.2.1 }
noncomputable def f88E (N : Nat) : Env .unit := { P := Try.prog, globs := globs, funs := [], loops := [], ranges := [] }
theorem f88q (N : Nat) (t0 : Int) (t1 : Int) : runFun (f88E N) f88o.ty f88o (fun _ y => y) Try.f88 f88p () ((), (t0, (t1, ()))) = f88F N t0 t1 := by
  kernel_rfl
theorem f88ok (N : Nat) : EntryOk Try.prog globs (f88e N) :=
  funOk (E := f88E N) (e := f88e N) (fn := Try.f88) (c := f88c) rfl (by kernel_rfl) (by kernel_rfl) (by kernel_rfl) (by kernel_rfl) rfl rfl (List.forall_mem_nil _) (LoopsOk.none (by kernel_rfl) (by kernel_rfl)) (by kernel_rfl) (by kernel_rfl) (by kernel_rfl) (fun x => f88q N x.2.1 x.2.2.1)

/-! f71: (shawm/lift.pair).drop -/
abbrev f71p : Pat := ⟨[], [(0, .dat (.agg (.pair I (.pair I .unit)))), (1, .dat I), (2, .dat I)]⟩
abbrev f71o : Pat := ⟨[], [(0, .dat (.agg (.pair I (.pair I .unit))))]⟩
noncomputable def f71c : Code := (Try.f71.body).getD .skip
def f71F (N : Nat) (t0 : (Int × (Int × Unit))) (t1 : Int) (t2 : Int) : Option (Unit × ((Int × (Int × Unit)) × Unit)) :=
  bif (t1 == 1) then (
   bif ((IntKind.i64.wrap (1 - t1)) == 1) then (
    (f88F N t2 t0.2.1).bind fun y1 =>
    bif (t1 == 1) then (
     some ((), ((t0.1, ((IntKind.i64.wrap (t0.2.1 - y1.2.1)), ())), ())))
    else (
     bif (t1 == 0) then (
      some ((), (((IntKind.i64.wrap (t0.2.1 - y1.2.1)), (t0.2.1, ())), ())))
     else (
      none)))
   else (
    bif ((IntKind.i64.wrap (1 - t1)) == 0) then (
     (f88F N t2 t0.1).bind fun y2 =>
     bif (t1 == 1) then (
      some ((), ((t0.1, ((IntKind.i64.wrap (t0.2.1 - y2.2.1)), ())), ())))
     else (
      bif (t1 == 0) then (
       some ((), (((IntKind.i64.wrap (t0.2.1 - y2.2.1)), (t0.2.1, ())), ())))
      else (
       none)))
    else (
     none)))
  else (
   bif (t1 == 0) then (
    bif ((IntKind.i64.wrap (1 - t1)) == 1) then (
     (f88F N t2 t0.2.1).bind fun y3 =>
     bif (t1 == 1) then (
      some ((), ((t0.1, ((IntKind.i64.wrap (t0.1 - y3.2.1)), ())), ())))
     else (
      bif (t1 == 0) then (
       some ((), (((IntKind.i64.wrap (t0.1 - y3.2.1)), (t0.2.1, ())), ())))
      else (
       none)))
    else (
     bif ((IntKind.i64.wrap (1 - t1)) == 0) then (
      (f88F N t2 t0.1).bind fun y4 =>
      bif (t1 == 1) then (
       some ((), ((t0.1, ((IntKind.i64.wrap (t0.1 - y4.2.1)), ())), ())))
      else (
       bif (t1 == 0) then (
        some ((), (((IntKind.i64.wrap (t0.1 - y4.2.1)), (t0.2.1, ())), ())))
       else (
        none)))
     else (
      none)))
   else (
    none))
def f71e (N : Nat) : Entry := { f := 71, pre := f71p, post := f71o, F := fun x => f71F N x.2.1 x.2.2.1 x.2.2.2.1 }
noncomputable def f71E (N : Nat) : Env .unit := { P := Try.prog, globs := globs, funs := [f88e N], loops := [], ranges := [] }
theorem f71q (N : Nat) (t0 : (Int × (Int × Unit))) (t1 : Int) (t2 : Int) : runFun (f71E N) f71o.ty f71o (fun _ y => y) Try.f71 f71p () ((), (t0, (t1, (t2, ())))) = f71F N t0 t1 t2 := by
  kernel_rfl
theorem f71ok (N : Nat) : EntryOk Try.prog globs (f71e N) :=
  funOk (E := f71E N) (e := f71e N) (fn := Try.f71) (c := f71c) rfl (by kernel_rfl) (by kernel_rfl) (by kernel_rfl) (by kernel_rfl) rfl rfl (List.forall_mem_cons.2 ⟨f88ok N, (List.forall_mem_nil _)⟩) (LoopsOk.none (by kernel_rfl) (by kernel_rfl)) (by kernel_rfl) (by kernel_rfl) (by kernel_rfl) (fun x => f71q N x.2.1 x.2.2.1 x.2.2.2.1)

/-! f72: (shawm/lift.pair).lift -/
abbrev f72p : Pat := ⟨[], [(0, .dat (.agg (.pair I (.pair I .unit)))), (1, .dat I), (2, .dat I)]⟩
abbrev f72o : Pat := ⟨[], [(0, .dat (.agg (.pair I (.pair I .unit))))]⟩
noncomputable def f72c : Code := (Try.f72.body).getD .skip
def f72F (N : Nat) (t0 : (Int × (Int × Unit))) (t1 : Int) (t2 : Int) : Option (Unit × ((Int × (Int × Unit)) × Unit)) :=
  bif (t1 == 1) then (
   bif ((IntKind.i64.wrap (1 - t1)) == 1) then (
    (f88F N t2 t0.2.1).bind fun y1 =>
    bif (t1 == 1) then (
     some ((), ((t0.1, ((IntKind.i64.wrap (t0.2.1 + y1.2.1)), ())), ())))
    else (
     bif (t1 == 0) then (
      some ((), (((IntKind.i64.wrap (t0.2.1 + y1.2.1)), (t0.2.1, ())), ())))
     else (
      none)))
   else (
    bif ((IntKind.i64.wrap (1 - t1)) == 0) then (
     (f88F N t2 t0.1).bind fun y2 =>
     bif (t1 == 1) then (
      some ((), ((t0.1, ((IntKind.i64.wrap (t0.2.1 + y2.2.1)), ())), ())))
     else (
      bif (t1 == 0) then (
       some ((), (((IntKind.i64.wrap (t0.2.1 + y2.2.1)), (t0.2.1, ())), ())))
      else (
       none)))
    else (
     none)))
  else (
   bif (t1 == 0) then (
    bif ((IntKind.i64.wrap (1 - t1)) == 1) then (
     (f88F N t2 t0.2.1).bind fun y3 =>
     bif (t1 == 1) then (
      some ((), ((t0.1, ((IntKind.i64.wrap (t0.1 + y3.2.1)), ())), ())))
     else (
      bif (t1 == 0) then (
       some ((), (((IntKind.i64.wrap (t0.1 + y3.2.1)), (t0.2.1, ())), ())))
      else (
       none)))
    else (
     bif ((IntKind.i64.wrap (1 - t1)) == 0) then (
      (f88F N t2 t0.1).bind fun y4 =>
      bif (t1 == 1) then (
       some ((), ((t0.1, ((IntKind.i64.wrap (t0.1 + y4.2.1)), ())), ())))
      else (
       bif (t1 == 0) then (
        some ((), (((IntKind.i64.wrap (t0.1 + y4.2.1)), (t0.2.1, ())), ())))
       else (
        none)))
     else (
      none)))
   else (
    none))
def f72e (N : Nat) : Entry := { f := 72, pre := f72p, post := f72o, F := fun x => f72F N x.2.1 x.2.2.1 x.2.2.2.1 }
noncomputable def f72E (N : Nat) : Env .unit := { P := Try.prog, globs := globs, funs := [f88e N], loops := [], ranges := [] }
theorem f72q (N : Nat) (t0 : (Int × (Int × Unit))) (t1 : Int) (t2 : Int) : runFun (f72E N) f72o.ty f72o (fun _ y => y) Try.f72 f72p () ((), (t0, (t1, (t2, ())))) = f72F N t0 t1 t2 := by
  kernel_rfl
theorem f72ok (N : Nat) : EntryOk Try.prog globs (f72e N) :=
  funOk (E := f72E N) (e := f72e N) (fn := Try.f72) (c := f72c) rfl (by kernel_rfl) (by kernel_rfl) (by kernel_rfl) (by kernel_rfl) rfl rfl (List.forall_mem_cons.2 ⟨f88ok N, (List.forall_mem_nil _)⟩) (LoopsOk.none (by kernel_rfl) (by kernel_rfl)) (by kernel_rfl) (by kernel_rfl) (by kernel_rfl) (fun x => f72q N x.2.1 x.2.2.1 x.2.2.2.1)

/-! f50: (shawm/lift.turn).forth -/
abbrev f50p : Pat := ⟨[], [(0, .dat (.agg (.pair I (.pair I (.pair I .unit))))), (1, .dat (.agg (.pair I (.pair I .unit))))]⟩
abbrev f50o : Pat := ⟨[], [(0, .dat (.agg (.pair I (.pair I .unit))))]⟩
noncomputable def f50c : Code := (Try.f50.body).getD .skip
noncomputable def f50l0c : Code := (((loopsIn 0 f50c)[0]?).map (·.2)).getD .skip
abbrev f50l0p : Pat := ⟨[.box [.dat I, .dat I]], [(3, .bptr 0), (6, .dat I), (7, .dat I)]⟩
abbrev f50l0x : List (Ex × Pat) := [(.exit 0, ⟨[.box [.dat I, .dat I]], []⟩)]
def f50l0 (N : Nat) : Nat → Int → Int → Int → Int → Option (((Int × (Int × Unit)) × Unit) × Unit)
  | 0, _, _, _, _ => none
  | n + 1, b0_0, b0_1, t6, t7 =>
    bif (decide (t7 < t6)) then (
     (f50l0 N n (IntKind.i64.wrap (0 - b0_1)) b0_0 t6 (IntKind.i64.wrap (t7 + 1))).bind some)
    else (
     some (((b0_0, (b0_1, ())), ()), ()))
def f50l0L (N : Nat) : LoopE .unit := { blk := 0, pre := f50l0p, exits := f50l0x, wr := [7,8,9,10,11,12,13,14,15], F := fun x => f50l0 N N x.1.1.1 x.1.1.2.1 x.2.2.1 x.2.2.2.1 }
def f50F (N : Nat) (t0 : (Int × (Int × (Int × Unit)))) (t1 : (Int × (Int × Unit))) : Option (Unit × ((Int × (Int × Unit)) × Unit)) :=
  (f50l0 N N t1.1 t1.2.1 t0.1 0).bind fun y1 =>
  (f71F N (y1.1.1.1, (y1.1.1.2.1, ())) 0 t0.2.1).bind fun y2 =>
  (f72F N (y2.2.1.1, (y2.2.1.2.1, ())) 1 t0.2.2.1).bind fun y3 =>
  (f71F N (y3.2.1.1, (y3.2.1.2.1, ())) 0 t0.2.1).bind fun y4 =>
  some ((), ((y4.2.1.1, (y4.2.1.2.1, ())), ()))
def f50e (N : Nat) : Entry := { f := 50, pre := f50p, post := f50o, F := fun x => f50F N x.2.1 x.2.2.1 }
noncomputable def f50E (N : Nat) : Env .unit := { P := Try.prog, globs := globs, funs := [f71e N, f72e N], loops := [f50l0L N], ranges := [] }
theorem f50l0s (N : Nat) (n1 : Nat) (g : Unit) (b0_0 : Int) (b0_1 : Int) (t6 : Int) (t7 : Int) : runLoop (sT := .unit) (f50E N) (sumTy f50l0x) f50l0x (fun _ y => y) f50l0c f50l0p (fun _ x => f50l0 N n1 x.1.1.1 x.1.1.2.1 x.2.2.1 x.2.2.2.1) g (((b0_0, (b0_1, ())), ()), ((), (t6, (t7, ())))) = f50l0 N (n1 + 1) b0_0 b0_1 t6 t7 := by
  kernel_rfl
theorem f50l0ok (N : Nat) : LoopOk (f50E N) Try.prog f50l0c (f50l0L N) :=
  loopOk (L := f50l0L N) (f := fun n x => f50l0 N n x.1.1.1 x.1.1.2.1 x.2.2.1 x.2.2.2.1) (N := N) (LoopsOk.none (by kernel_rfl) (by kernel_rfl)) (by kernel_rfl) (by kernel_rfl) rfl rfl (fun _ => rfl) (fun n1 g x => f50l0s N n1 g x.1.1.1 x.1.1.2.1 x.2.2.1 x.2.2.2.1)
theorem f50q (N : Nat) (t0 : (Int × (Int × (Int × Unit)))) (t1 : (Int × (Int × Unit))) : runFun (f50E N) f50o.ty f50o (fun _ y => y) Try.f50 f50p () ((), (t0, (t1, ()))) = f50F N t0 t1 := by
  kernel_rfl
theorem f50ok (N : Nat) : EntryOk Try.prog globs (f50e N) :=
  funOk (E := f50E N) (e := f50e N) (fn := Try.f50) (c := f50c) rfl (by kernel_rfl) (by kernel_rfl) (by kernel_rfl) (by kernel_rfl) rfl rfl (List.forall_mem_cons.2 ⟨f71ok N, (List.forall_mem_cons.2 ⟨f72ok N, (List.forall_mem_nil _)⟩)⟩) (LoopsOk.both (l := [(0, f50l0c)]) (r := []) (by kernel_rfl) (by kernel_rfl) (List.forall_mem_cons.2 ⟨LoopFor.of (L := f50l0L N) (by kernel_rfl) (f50l0ok N) (by kernel_rfl), (List.forall_mem_nil _)⟩) (List.forall_mem_nil _)) (by kernel_rfl) (by kernel_rfl) (by kernel_rfl) (fun x => f50q N x.2.1 x.2.2.1)

/-! f48: shawm/lift.turned -/
abbrev f48p : Pat := ⟨[], [(0, .dat (.agg (.pair I (.pair I .unit)))), (1, .dat I), (2, .dat I), (3, .dat I), (4, .dat (.clo 49 .unit .unit))]⟩
abbrev f48o : Pat := ⟨[], [(0, .dat I), (1, .dat I), (2, .dat I)]⟩
noncomputable def f48c : Code := (Try.f48.body).getD .skip
def f48F (N : Nat) (t0 : (Int × (Int × Unit))) (t1 : Int) (t2 : Int) (t3 : Int) (t4 : (Unit × Unit)) : Option (Unit × (Int × (Int × (Int × Unit)))) :=
  (f68F N t3).bind fun y1 =>
  (f69F N t2).bind fun y2 =>
  bif (!y2.2.1) then (
   some ((), (0, (0, (1, ())))))
  else (
   (f85F N t0.1 y1.2.1.2.1).bind fun y3 =>
   bif (!y3.2.1) then (
    some ((), (0, (0, (6, ())))))
   else (
    (f85F N t0.2.1 y1.2.1.2.1).bind fun y4 =>
    bif (!y4.2.1) then (
     some ((), (0, (0, (6, ())))))
    else (
     (f68F N 1099511627776).bind fun y5 =>
     (f85F N t1 y5.2.1.2.1).bind fun y6 =>
     bif (!y6.2.1) then (
      some ((), (0, (0, (6, ())))))
     else (
      (f70F N t1 t2).bind fun y7 =>
      (f49F N (y7.2.1.1, (y7.2.1.2.1, (y7.2.1.2.2.1, ())))).bind fun y8 =>
      (f50F N (y8.2.1.1.1.1, (y8.2.1.1.1.2.1, (y8.2.1.1.1.2.2.1, ()))) (t0.1, (t0.2.1, ()))).bind fun y9 =>
      some ((), (y9.2.1.1, (y9.2.1.2.1, (0, ()))))))))
def f48e (N : Nat) : Entry := { f := 48, pre := f48p, post := f48o, F := fun x => f48F N x.2.1 x.2.2.1 x.2.2.2.1 x.2.2.2.2.1 x.2.2.2.2.2.1 }
noncomputable def f48E (N : Nat) : Env .unit := { P := Try.prog, globs := globs, funs := [f68e N, f69e N, f85e N, f70e N, f49e N, f50e N], loops := [], ranges := [] }
theorem f48q (N : Nat) (t0 : (Int × (Int × Unit))) (t1 : Int) (t2 : Int) (t3 : Int) (t4 : (Unit × Unit)) : runFun (f48E N) f48o.ty f48o (fun _ y => y) Try.f48 f48p () ((), (t0, (t1, (t2, (t3, (t4, ())))))) = f48F N t0 t1 t2 t3 t4 := by
  kernel_rfl
theorem f48ok (N : Nat) : EntryOk Try.prog globs (f48e N) :=
  funOk (E := f48E N) (e := f48e N) (fn := Try.f48) (c := f48c) rfl (by kernel_rfl) (by kernel_rfl) (by kernel_rfl) (by kernel_rfl) rfl rfl (List.forall_mem_cons.2 ⟨f68ok N, (List.forall_mem_cons.2 ⟨f69ok N, (List.forall_mem_cons.2 ⟨f85ok N, (List.forall_mem_cons.2 ⟨f70ok N, (List.forall_mem_cons.2 ⟨f49ok N, (List.forall_mem_cons.2 ⟨f50ok N, (List.forall_mem_nil _)⟩)⟩)⟩)⟩)⟩)⟩) (LoopsOk.none (by kernel_rfl) (by kernel_rfl)) (by kernel_rfl) (by kernel_rfl) (by kernel_rfl) (fun x => f48q N x.2.1 x.2.2.1 x.2.2.2.1 x.2.2.2.2.1 x.2.2.2.2.2.1)

/-! f33: shawm/lift.Turn -/
abbrev f33p : Pat := ⟨[], [(0, .dat I), (1, .dat I), (2, .dat I), (3, .dat I)]⟩
abbrev f33o : Pat := ⟨[], [(0, .dat I), (1, .dat I), (2, .dat I)]⟩
noncomputable def f33c : Code := (Try.f33.body).getD .skip
def f33F (N : Nat) (t0 : Int) (t1 : Int) (t2 : Int) (t3 : Int) : Option (Unit × (Int × (Int × (Int × Unit)))) :=
  (f48F N (t0, (t1, ())) t2 t3 1073741824 ((), ())).bind fun y1 =>
  some ((), (y1.2.1, (y1.2.2.1, (y1.2.2.2.1, ()))))
def f33e (N : Nat) : Entry := { f := 33, pre := f33p, post := f33o, F := fun x => f33F N x.2.1 x.2.2.1 x.2.2.2.1 x.2.2.2.2.1 }
noncomputable def f33E (N : Nat) : Env .unit := { P := Try.prog, globs := globs, funs := [f48e N], loops := [], ranges := [] }
theorem f33q (N : Nat) (t0 : Int) (t1 : Int) (t2 : Int) (t3 : Int) : runFun (f33E N) f33o.ty f33o (fun _ y => y) Try.f33 f33p () ((), (t0, (t1, (t2, (t3, ()))))) = f33F N t0 t1 t2 t3 := by
  kernel_rfl
theorem f33ok (N : Nat) : EntryOk Try.prog globs (f33e N) :=
  funOk (E := f33E N) (e := f33e N) (fn := Try.f33) (c := f33c) rfl (by kernel_rfl) (by kernel_rfl) (by kernel_rfl) (by kernel_rfl) rfl rfl (List.forall_mem_cons.2 ⟨f48ok N, (List.forall_mem_nil _)⟩) (LoopsOk.none (by kernel_rfl) (by kernel_rfl)) (by kernel_rfl) (by kernel_rfl) (by kernel_rfl) (fun x => f33q N x.2.1 x.2.2.1 x.2.2.2.1 x.2.2.2.2.1)

/-! f46v1: shawm/lap.laps$1 -/
abbrev f46v1p : Pat := ⟨[.box [.dat (.clo 33 .unit .unit)], .box [.vref 2], .vec 3 I], [(0, .dat (.agg (.pair I (.pair I .unit)))), (1, .bptr 0), (2, .bptr 1)]⟩
abbrev f46v1o : Pat := ⟨[.box [.dat (.clo 33 .unit .unit)], .box [.vref 2], .vec 3 I], []⟩
noncomputable def f46v1c : Code := (Try.f46.body).getD .skip
noncomputable def f46v1l0c : Code := (((loopsIn 0 f46v1c)[0]?).map (·.2)).getD .skip
abbrev f46v1l0p : Pat := ⟨[.box [.dat (.clo 33 .unit .unit)], .box [.vref 3], .box [.dat I, .dat I], .arr 3 I], [(1, .bptr 0), (2, .bptr 1), (3, .bptr 2), (9, .dat I), (10, .dat I)]⟩
abbrev f46v1l0x : List (Ex × Pat) := [(.exit 0, ⟨[.box [.dat (.clo 33 .unit .unit)], .box [.vref 3], .box [.dat I, .dat I], .arr 3 I], []⟩)]
def f46v1l0 (N : Nat) : Nat → (Unit × Unit) → Int → Int → (List Int) → Int → Int → Option ((((Unit × Unit) × Unit) × ((Unit × Unit) × ((Int × (Int × Unit)) × ((List Int) × Unit)))) × Unit)
  | 0, _, _, _, _, _, _ => none
  | n + 1, b0_0, b2_0, b2_1, v3, t9, t10 =>
    bif (decide (t10 < t9)) then (
     bif ((decide (0 ≤ (IntKind.i64.wrap ((IntKind.i64.wrap (b2_0 - 1)) - t10)))) && (decide ((IntKind.i64.wrap ((IntKind.i64.wrap (b2_0 - 1)) - t10)) < ((List.length v3 : Nat) : Int)))) then (
      bif ((decide (0 ≤ (IntKind.i64.wrap (b2_0 + t10)))) && (decide ((IntKind.i64.wrap (b2_0 + t10)) < ((List.length v3 : Nat) : Int)))) then (
       (f33F N (List.getD v3 (Int.toNat (IntKind.i64.wrap ((IntKind.i64.wrap (b2_0 - 1)) - t10))) 0) (List.getD v3 (Int.toNat (IntKind.i64.wrap (b2_0 + t10))) 0) (IntKind.i64.wrap ((IntKind.i64.wrap (b2_1 - (IntKind.i64.wrap (2 * t10)))) - 1)) (IntKind.i64.wrap (8 * b2_1))).bind fun y1 =>
       bif ((decide (0 ≤ (IntKind.i64.wrap ((IntKind.i64.wrap (b2_0 - 1)) - t10)))) && (decide ((IntKind.i64.wrap ((IntKind.i64.wrap (b2_0 - 1)) - t10)) < ((List.length v3 : Nat) : Int)))) then (
        bif ((decide (0 ≤ (IntKind.i64.wrap (b2_0 + t10)))) && (decide ((IntKind.i64.wrap (b2_0 + t10)) < ((List.length (List.set v3 (Int.toNat (IntKind.i64.wrap ((IntKind.i64.wrap (b2_0 - 1)) - t10))) y1.2.1) : Nat) : Int)))) then (
         (f46v1l0 N n b0_0 b2_0 b2_1 (List.set (List.set v3 (Int.toNat (IntKind.i64.wrap ((IntKind.i64.wrap (b2_0 - 1)) - t10))) y1.2.1) (Int.toNat (IntKind.i64.wrap (b2_0 + t10))) y1.2.2.1) t9 (IntKind.i64.wrap (t10 + 1))).bind some)
        else (
         none))
       else (
        none))
      else (
       none))
     else (
      none))
    else (
     some (((b0_0, ()), (((), ()), ((b2_0, (b2_1, ())), (v3, ())))), ()))
def f46v1l0L (N : Nat) : LoopE .unit := { blk := 0, pre := f46v1l0p, exits := f46v1l0x, wr := [4,5,6,10,11,12,13,14,15,16,17,18,19,20,21,22,23,24,25,26,27,28,29,30,31,32,33,34,35,36,37,38,39,40,41,42,43,44,45,46,47,48,49,50,51], F := fun x => f46v1l0 N N x.1.1.1 x.1.2.2.1.1 x.1.2.2.1.2.1 x.1.2.2.2.1 x.2.2.2.2.1 x.2.2.2.2.2.1 }
def f46v1F (N : Nat) (b0_0 : (Unit × Unit)) (v2 : (List Int)) (t0 : (Int × (Int × Unit))) : Option ((((Unit × Unit) × Unit) × ((Unit × Unit) × ((List Int) × Unit))) × Unit) :=
  (f46v1l0 N N b0_0 t0.1 t0.2.1 v2 (IntKind.i64.wrap (Int.tdiv t0.2.1 2)) 0).bind fun y2 =>
  some (((y2.1.1.1, ()), (((), ()), (y2.1.2.2.2.1, ()))), ())
def f46v1e (N : Nat) : Entry := { f := 46, pre := f46v1p, post := f46v1o, F := fun x => f46v1F N x.1.1.1 x.1.2.2.1 x.2.1 }
noncomputable def f46v1E (N : Nat) : Env .unit := { P := Try.prog, globs := globs, funs := [f33e N], loops := [f46v1l0L N], ranges := [] }
theorem f46v1l0s (N : Nat) (n1 : Nat) (g : Unit) (b0_0 : (Unit × Unit)) (b2_0 : Int) (b2_1 : Int) (v3 : (List Int)) (t9 : Int) (t10 : Int) : runLoop (sT := .unit) (f46v1E N) (sumTy f46v1l0x) f46v1l0x (fun _ y => y) f46v1l0c f46v1l0p (fun _ x => f46v1l0 N n1 x.1.1.1 x.1.2.2.1.1 x.1.2.2.1.2.1 x.1.2.2.2.1 x.2.2.2.2.1 x.2.2.2.2.2.1) g (((b0_0, ()), (((), ()), ((b2_0, (b2_1, ())), (v3, ())))), ((), ((), ((), (t9, (t10, ())))))) = f46v1l0 N (n1 + 1) b0_0 b2_0 b2_1 v3 t9 t10 := by
  kernel_rfl
theorem f46v1l0ok (N : Nat) : LoopOk (f46v1E N) Try.prog f46v1l0c (f46v1l0L N) :=
  loopOk (L := f46v1l0L N) (f := fun n x => f46v1l0 N n x.1.1.1 x.1.2.2.1.1 x.1.2.2.1.2.1 x.1.2.2.2.1 x.2.2.2.2.1 x.2.2.2.2.2.1) (N := N) (LoopsOk.none (by kernel_rfl) (by kernel_rfl)) (by kernel_rfl) (by kernel_rfl) rfl rfl (fun _ => rfl) (fun n1 g x => f46v1l0s N n1 g x.1.1.1 x.1.2.2.1.1 x.1.2.2.1.2.1 x.1.2.2.2.1 x.2.2.2.2.1 x.2.2.2.2.2.1)
theorem f46v1q (N : Nat) (b0_0 : (Unit × Unit)) (v2 : (List Int)) (t0 : (Int × (Int × Unit))) : runFun (f46v1E N) f46v1o.ty f46v1o (fun _ y => y) Try.f46 f46v1p () (((b0_0, ()), (((), ()), (v2, ()))), (t0, ((), ((), ())))) = f46v1F N b0_0 v2 t0 := by
  kernel_rfl
theorem f46v1ok (N : Nat) : EntryOk Try.prog globs (f46v1e N) :=
  funOk (E := f46v1E N) (e := f46v1e N) (fn := Try.f46) (c := f46v1c) rfl (by kernel_rfl) (by kernel_rfl) (by kernel_rfl) (by kernel_rfl) rfl rfl (List.forall_mem_cons.2 ⟨f33ok N, (List.forall_mem_nil _)⟩) (LoopsOk.both (l := [(0, f46v1l0c)]) (r := []) (by kernel_rfl) (by kernel_rfl) (List.forall_mem_cons.2 ⟨LoopFor.of (L := f46v1l0L N) (by kernel_rfl) (f46v1l0ok N) (by kernel_rfl), (List.forall_mem_nil _)⟩) (List.forall_mem_nil _)) (by kernel_rfl) (by kernel_rfl) (by kernel_rfl) (fun x => f46v1q N x.1.1.1 x.1.2.2.1 x.2.1)

/-! f32v1: shawm/lap.laps -/
abbrev f32v1p : Pat := ⟨[.vec 3 I], [(0, .vref 0), (1, .dat (.list I)), (2, .dat (.clo 33 .unit .unit))]⟩
abbrev f32v1o : Pat := ⟨[.vec 3 I], []⟩
noncomputable def f32v1c : Code := (Try.f32.body).getD .skip
noncomputable def f32v1r0q : RangeC := ((rangesIn 0 f32v1c)[0]?).getD ⟨0, .tmp 0, #[], .skip, .skip⟩
noncomputable def f32v1r0b : Code := f32v1r0q.body
abbrev f32v1r0p : Pat := ⟨[.box [.cfn 46 [1, 2]], .box [.dat (.clo 33 .unit .unit)], .box [.vref 3], .arr 3 I], [(6, .bptr 0)]⟩
abbrev f32v1r0x : List (Ex × Pat) := []
def f32v1r0c (N : Nat) (y_0 : (Int × (Int × Unit))) (b1_0 : (Unit × Unit)) (v3 : (List Int)) : Option (((Unit × Unit) × (((Unit × Unit) × Unit) × ((Unit × Unit) × ((List Int) × Unit)))) ⊕ Unit) :=
  (f46v1F N b1_0 v3 (y_0.1, (y_0.2.1, ()))).bind fun y1 =>
  some (Sum.inl (((), ()), ((y1.1.1.1, ()), (((), ()), (y1.1.2.2.1, ())))))
def f32v1r0d (N : Nat) (y : ((Int × (Int × Unit)) × Unit)) (x : (((Unit × Unit) × (((Unit × Unit) × Unit) × ((Unit × Unit) × ((List Int) × Unit)))) × (Unit × Unit))) : Option (((Unit × Unit) × (((Unit × Unit) × Unit) × ((Unit × Unit) × ((List Int) × Unit)))) ⊕ Unit) := f32v1r0c N y.1 x.1.2.1.1 x.1.2.2.2.1
def f32v1r0F (N : Nat) (c : (Unit × ((List Int) × Unit))) (b1_0 : (Unit × Unit)) (v3 : (List Int)) : Option (((Unit × Unit) × (((Unit × Unit) × Unit) × ((Unit × Unit) × ((List Int) × Unit)))) × Unit) := (i67F N (.sum (.pair (.pair .unit .unit) (.pair (.pair (.clo 33 .unit .unit) .unit) (.pair (.pair .unit .unit) (.pair (.list I) .unit)))) .unit) (stepRound fun y o => f32v1r0d N y (o, ((), ()))) c.2.1 (Sum.inl (((), ()), ((b1_0, ()), (((), ()), (v3, ())))))).bind (finish f32v1r0p f32v1r0x)
def f32v1r0R (N : Nat) : RangeE := rangeE 0 (i67e N) f32v1r0p f32v1r0x (f32v1r0d N)
def f32v1F (N : Nat) (v0 : (List Int)) (t1 : (List Int)) (t2 : (Unit × Unit)) : Option (((List Int) × Unit) × Unit) :=
  (f47F N t1).bind fun y2 =>
  (f32v1r0F N y2.2.1 t2 v0).bind fun y3 =>
  some ((y3.1.2.2.2.1, ()), ())
def f32v1e (N : Nat) : Entry := { f := 32, pre := f32v1p, post := f32v1o, F := fun x => f32v1F N x.1.1 x.2.2.1 x.2.2.2.1 }
noncomputable def f32v1E (N : Nat) : Env .unit := { P := Try.prog, globs := globs, funs := [f47e N, f46v1e N], loops := [], ranges := [f32v1r0R N] }
theorem f32v1r0s (N : Nat) (g : Unit) (y_0 : (Int × (Int × Unit))) (b1_0 : (Unit × Unit)) (v3 : (List Int)) : runRound (sT := .unit) (f32v1E N) f32v1r0p f32v1r0x f32v1r0q.ps.toList f32v1r0q.assign f32v1r0q.body (i67e N).Y g (y_0, ()) ((((), ()), ((b1_0, ()), (((), ()), (v3, ())))), ((), ())) = f32v1r0d N (y_0, ()) ((((), ()), ((b1_0, ()), (((), ()), (v3, ())))), ((), ())) := by
  kernel_rfl
theorem f32v1r0ok (N : Nat) : RangeOk (f32v1E N) Try.prog f32v1r0q.f f32v1r0q.ps f32v1r0q.assign f32v1r0q.body (f32v1r0R N) :=
  rangeOk (E := f32v1E N) (it := i67e N) (pre := f32v1r0p) (exits := f32v1r0x) (round := f32v1r0d N) (i67ok N) rfl (fun g y x => f32v1r0s N g y.1 x.1.2.1.1 x.1.2.2.2.1) (LoopsOk.none (by kernel_rfl) (by kernel_rfl)) (LoopsOk.none (by kernel_rfl) (by kernel_rfl)) (by kernel_rfl) (by kernel_rfl) (by kernel_rfl) (by kernel_rfl)
theorem f32v1q (N : Nat) (v0 : (List Int)) (t1 : (List Int)) (t2 : (Unit × Unit)) : runFun (f32v1E N) f32v1o.ty f32v1o (fun _ y => y) Try.f32 f32v1p () ((v0, ()), ((), (t1, (t2, ())))) = f32v1F N v0 t1 t2 := by
  kernel_rfl
theorem f32v1ok (N : Nat) : EntryOk Try.prog globs (f32v1e N) :=
  funOk (E := f32v1E N) (e := f32v1e N) (fn := Try.f32) (c := f32v1c) rfl (by kernel_rfl) (by kernel_rfl) (by kernel_rfl) (by kernel_rfl) rfl rfl (List.forall_mem_cons.2 ⟨f47ok N, (List.forall_mem_cons.2 ⟨f46v1ok N, (List.forall_mem_nil _)⟩)⟩) (LoopsOk.both (l := []) (r := [f32v1r0q]) (by kernel_rfl) (by kernel_rfl) (List.forall_mem_nil _) (List.forall_mem_cons.2 ⟨RangeFor.of (L := f32v1r0R N) (by kernel_rfl) (f32v1r0ok N) rfl, (List.forall_mem_nil _)⟩)) (by kernel_rfl) (by kernel_rfl) (by kernel_rfl) (fun x => f32v1q N x.1.1 x.2.2.1 x.2.2.2.1)

/-! f19: shawm/lap.Fold -/
abbrev f19p : Pat := ⟨[], [(0, .dat (.list I)), (1, .dat (.list I))]⟩
abbrev f19o : Pat := ⟨[.vec 3 I], [(0, .vref 0), (1, .dat I)]⟩
noncomputable def f19c : Code := (Try.f19.body).getD .skip
def f19F (N : Nat) (t0 : (List Int)) (t1 : (List Int)) : Option (((List Int) × Unit) × (Unit × (Int × Unit))) :=
  (f30F N t0 t1 65536).bind fun y1 =>
  bif (y1.2.1 != 0) then (
   some ((([] : List Int), ()), ((), (y1.2.1, ()))))
  else (
   (f31F N t0).bind fun y2 =>
   (f32v1F N y2.1.1 t1 ((), ())).bind fun y3 =>
   some ((y3.1.1, ()), ((), (0, ()))))
def f19e (N : Nat) : Entry := { f := 19, pre := f19p, post := f19o, F := fun x => f19F N x.2.1 x.2.2.1 }
noncomputable def f19E (N : Nat) : Env .unit := { P := Try.prog, globs := globs, funs := [f30e N, f31e N, f32v1e N], loops := [], ranges := [] }
theorem f19q (N : Nat) (t0 : (List Int)) (t1 : (List Int)) : runFun (f19E N) f19o.ty f19o (fun _ y => y) Try.f19 f19p () ((), (t0, (t1, ()))) = f19F N t0 t1 := by
  kernel_rfl
theorem f19ok (N : Nat) : EntryOk Try.prog globs (f19e N) :=
  funOk (E := f19E N) (e := f19e N) (fn := Try.f19) (c := f19c) rfl (by kernel_rfl) (by kernel_rfl) (by kernel_rfl) (by kernel_rfl) rfl rfl (List.forall_mem_cons.2 ⟨f30ok N, (List.forall_mem_cons.2 ⟨f31ok N, (List.forall_mem_cons.2 ⟨f32v1ok N, (List.forall_mem_nil _)⟩)⟩)⟩) (LoopsOk.none (by kernel_rfl) (by kernel_rfl)) (by kernel_rfl) (by kernel_rfl) (by kernel_rfl) (fun x => f19q N x.2.1 x.2.2.1)

/-! f65: shawm/lift.Back$1 -/
abbrev f65p : Pat := ⟨[], [(0, .dat (.agg (.pair I (.pair I (.pair I .unit)))))]⟩
abbrev f65o : Pat := ⟨[], [(0, .dat (.clo 66 (.pair (.agg (.pair I (.pair I (.pair I .unit)))) .unit) .unit))]⟩
noncomputable def f65c : Code := (Try.f65.body).getD .skip
def f65F (N : Nat) (t0 : (Int × (Int × (Int × Unit)))) : Option (Unit × ((((Int × (Int × (Int × Unit))) × Unit) × Unit) × Unit)) :=
  some ((), ((((t0.1, (t0.2.1, (t0.2.2.1, ()))), ()), ()), ()))
def f65e (N : Nat) : Entry := { f := 65, pre := f65p, post := f65o, F := fun x => f65F N x.2.1 }
noncomputable def f65E (N : Nat) : Env .unit := { P := Try.prog, globs := globs, funs := [], loops := [], ranges := [] }
theorem f65q (N : Nat) (t0 : (Int × (Int × (Int × Unit)))) : runFun (f65E N) f65o.ty f65o (fun _ y => y) Try.f65 f65p () ((), (t0, ())) = f65F N t0 := by
  kernel_rfl
theorem f65ok (N : Nat) : EntryOk Try.prog globs (f65e N) :=
  funOk (E := f65E N) (e := f65e N) (fn := Try.f65) (c := f65c) rfl (by kernel_rfl) (by kernel_rfl) (by kernel_rfl) (by kernel_rfl) rfl rfl (List.forall_mem_nil _) (LoopsOk.none (by kernel_rfl) (by kernel_rfl)) (by kernel_rfl) (by kernel_rfl) (by kernel_rfl) (fun x => f65q N x.2.1)

/-! f66: (shawm/lift.turn).back -/
abbrev f66p : Pat := ⟨[], [(0, .dat (.agg (.pair I (.pair I (.pair I .unit))))), (1, .dat (.agg (.pair I (.pair I .unit))))]⟩
abbrev f66o : Pat := ⟨[], [(0, .dat (.agg (.pair I (.pair I .unit))))]⟩
noncomputable def f66c : Code := (Try.f66.body).getD .skip
noncomputable def f66l0c : Code := (((loopsIn 0 f66c)[0]?).map (·.2)).getD .skip
abbrev f66l0p : Pat := ⟨[.box [.dat I, .dat I]], [(3, .bptr 0), (16, .dat I), (17, .dat I)]⟩
abbrev f66l0x : List (Ex × Pat) := [(.exit 0, ⟨[.box [.dat I, .dat I]], []⟩)]
def f66l0 (N : Nat) : Nat → Int → Int → Int → Int → Option (((Int × (Int × Unit)) × Unit) × Unit)
  | 0, _, _, _, _ => none
  | n + 1, b0_0, b0_1, t16, t17 =>
    bif (decide (t17 < t16)) then (
     (f66l0 N n b0_1 (IntKind.i64.wrap (0 - b0_0)) t16 (IntKind.i64.wrap (t17 + 1))).bind some)
    else (
     some (((b0_0, (b0_1, ())), ()), ()))
def f66l0L (N : Nat) : LoopE .unit := { blk := 0, pre := f66l0p, exits := f66l0x, wr := [17,18,19,20,21,22,23,24,25], F := fun x => f66l0 N N x.1.1.1 x.1.1.2.1 x.2.2.1 x.2.2.2.1 }
def f66F (N : Nat) (t0 : (Int × (Int × (Int × Unit)))) (t1 : (Int × (Int × Unit))) : Option (Unit × ((Int × (Int × Unit)) × Unit)) :=
  (f72F N (t1.1, (t1.2.1, ())) 0 t0.2.1).bind fun y1 =>
  (f71F N (y1.2.1.1, (y1.2.1.2.1, ())) 1 t0.2.2.1).bind fun y2 =>
  (f72F N (y2.2.1.1, (y2.2.1.2.1, ())) 0 t0.2.1).bind fun y3 =>
  (f66l0 N N y3.2.1.1 y3.2.1.2.1 t0.1 0).bind fun y4 =>
  some ((), ((y4.1.1.1, (y4.1.1.2.1, ())), ()))
def f66e (N : Nat) : Entry := { f := 66, pre := f66p, post := f66o, F := fun x => f66F N x.2.1 x.2.2.1 }
noncomputable def f66E (N : Nat) : Env .unit := { P := Try.prog, globs := globs, funs := [f72e N, f71e N], loops := [f66l0L N], ranges := [] }
theorem f66l0s (N : Nat) (n1 : Nat) (g : Unit) (b0_0 : Int) (b0_1 : Int) (t16 : Int) (t17 : Int) : runLoop (sT := .unit) (f66E N) (sumTy f66l0x) f66l0x (fun _ y => y) f66l0c f66l0p (fun _ x => f66l0 N n1 x.1.1.1 x.1.1.2.1 x.2.2.1 x.2.2.2.1) g (((b0_0, (b0_1, ())), ()), ((), (t16, (t17, ())))) = f66l0 N (n1 + 1) b0_0 b0_1 t16 t17 := by
  kernel_rfl
theorem f66l0ok (N : Nat) : LoopOk (f66E N) Try.prog f66l0c (f66l0L N) :=
  loopOk (L := f66l0L N) (f := fun n x => f66l0 N n x.1.1.1 x.1.1.2.1 x.2.2.1 x.2.2.2.1) (N := N) (LoopsOk.none (by kernel_rfl) (by kernel_rfl)) (by kernel_rfl) (by kernel_rfl) rfl rfl (fun _ => rfl) (fun n1 g x => f66l0s N n1 g x.1.1.1 x.1.1.2.1 x.2.2.1 x.2.2.2.1)
theorem f66q (N : Nat) (t0 : (Int × (Int × (Int × Unit)))) (t1 : (Int × (Int × Unit))) : runFun (f66E N) f66o.ty f66o (fun _ y => y) Try.f66 f66p () ((), (t0, (t1, ()))) = f66F N t0 t1 := by
  kernel_rfl
theorem f66ok (N : Nat) : EntryOk Try.prog globs (f66e N) :=
  funOk (E := f66E N) (e := f66e N) (fn := Try.f66) (c := f66c) rfl (by kernel_rfl) (by kernel_rfl) (by kernel_rfl) (by kernel_rfl) rfl rfl (List.forall_mem_cons.2 ⟨f72ok N, (List.forall_mem_cons.2 ⟨f71ok N, (List.forall_mem_nil _)⟩)⟩) (LoopsOk.both (l := [(0, f66l0c)]) (r := []) (by kernel_rfl) (by kernel_rfl) (List.forall_mem_cons.2 ⟨LoopFor.of (L := f66l0L N) (by kernel_rfl) (f66l0ok N) (by kernel_rfl), (List.forall_mem_nil _)⟩) (List.forall_mem_nil _)) (by kernel_rfl) (by kernel_rfl) (by kernel_rfl) (fun x => f66q N x.2.1 x.2.2.1)

/-! f48v1: shawm/lift.turned -/
abbrev f48v1p : Pat := ⟨[], [(0, .dat (.agg (.pair I (.pair I .unit)))), (1, .dat I), (2, .dat I), (3, .dat I), (4, .dat (.clo 65 .unit .unit))]⟩
abbrev f48v1o : Pat := ⟨[], [(0, .dat I), (1, .dat I), (2, .dat I)]⟩
noncomputable def f48v1c : Code := (Try.f48.body).getD .skip
def f48v1F (N : Nat) (t0 : (Int × (Int × Unit))) (t1 : Int) (t2 : Int) (t3 : Int) (t4 : (Unit × Unit)) : Option (Unit × (Int × (Int × (Int × Unit)))) :=
  (f68F N t3).bind fun y1 =>
  (f69F N t2).bind fun y2 =>
  bif (!y2.2.1) then (
   some ((), (0, (0, (1, ())))))
  else (
   (f85F N t0.1 y1.2.1.2.1).bind fun y3 =>
   bif (!y3.2.1) then (
    some ((), (0, (0, (6, ())))))
   else (
    (f85F N t0.2.1 y1.2.1.2.1).bind fun y4 =>
    bif (!y4.2.1) then (
     some ((), (0, (0, (6, ())))))
    else (
     (f68F N 1099511627776).bind fun y5 =>
     (f85F N t1 y5.2.1.2.1).bind fun y6 =>
     bif (!y6.2.1) then (
      some ((), (0, (0, (6, ())))))
     else (
      (f70F N t1 t2).bind fun y7 =>
      (f65F N (y7.2.1.1, (y7.2.1.2.1, (y7.2.1.2.2.1, ())))).bind fun y8 =>
      (f66F N (y8.2.1.1.1.1, (y8.2.1.1.1.2.1, (y8.2.1.1.1.2.2.1, ()))) (t0.1, (t0.2.1, ()))).bind fun y9 =>
      some ((), (y9.2.1.1, (y9.2.1.2.1, (0, ()))))))))
def f48v1e (N : Nat) : Entry := { f := 48, pre := f48v1p, post := f48v1o, F := fun x => f48v1F N x.2.1 x.2.2.1 x.2.2.2.1 x.2.2.2.2.1 x.2.2.2.2.2.1 }
noncomputable def f48v1E (N : Nat) : Env .unit := { P := Try.prog, globs := globs, funs := [f68e N, f69e N, f85e N, f70e N, f65e N, f66e N], loops := [], ranges := [] }
theorem f48v1q (N : Nat) (t0 : (Int × (Int × Unit))) (t1 : Int) (t2 : Int) (t3 : Int) (t4 : (Unit × Unit)) : runFun (f48v1E N) f48v1o.ty f48v1o (fun _ y => y) Try.f48 f48v1p () ((), (t0, (t1, (t2, (t3, (t4, ())))))) = f48v1F N t0 t1 t2 t3 t4 := by
  kernel_rfl
theorem f48v1ok (N : Nat) : EntryOk Try.prog globs (f48v1e N) :=
  funOk (E := f48v1E N) (e := f48v1e N) (fn := Try.f48) (c := f48v1c) rfl (by kernel_rfl) (by kernel_rfl) (by kernel_rfl) (by kernel_rfl) rfl rfl (List.forall_mem_cons.2 ⟨f68ok N, (List.forall_mem_cons.2 ⟨f69ok N, (List.forall_mem_cons.2 ⟨f85ok N, (List.forall_mem_cons.2 ⟨f70ok N, (List.forall_mem_cons.2 ⟨f65ok N, (List.forall_mem_cons.2 ⟨f66ok N, (List.forall_mem_nil _)⟩)⟩)⟩)⟩)⟩)⟩) (LoopsOk.none (by kernel_rfl) (by kernel_rfl)) (by kernel_rfl) (by kernel_rfl) (by kernel_rfl) (fun x => f48v1q N x.2.1 x.2.2.1 x.2.2.2.1 x.2.2.2.2.1 x.2.2.2.2.2.1)

/-! f42: shawm/lift.Back -/
abbrev f42p : Pat := ⟨[], [(0, .dat I), (1, .dat I), (2, .dat I), (3, .dat I)]⟩
abbrev f42o : Pat := ⟨[], [(0, .dat I), (1, .dat I), (2, .dat I)]⟩
noncomputable def f42c : Code := (Try.f42.body).getD .skip
def f42F (N : Nat) (t0 : Int) (t1 : Int) (t2 : Int) (t3 : Int) : Option (Unit × (Int × (Int × (Int × Unit)))) :=
  (f48v1F N (t0, (t1, ())) t2 t3 4294967296 ((), ())).bind fun y1 =>
  some ((), (y1.2.1, (y1.2.2.1, (y1.2.2.2.1, ()))))
def f42e (N : Nat) : Entry := { f := 42, pre := f42p, post := f42o, F := fun x => f42F N x.2.1 x.2.2.1 x.2.2.2.1 x.2.2.2.2.1 }
noncomputable def f42E (N : Nat) : Env .unit := { P := Try.prog, globs := globs, funs := [f48v1e N], loops := [], ranges := [] }
theorem f42q (N : Nat) (t0 : Int) (t1 : Int) (t2 : Int) (t3 : Int) : runFun (f42E N) f42o.ty f42o (fun _ y => y) Try.f42 f42p () ((), (t0, (t1, (t2, (t3, ()))))) = f42F N t0 t1 t2 t3 := by
  kernel_rfl
theorem f42ok (N : Nat) : EntryOk Try.prog globs (f42e N) :=
  funOk (E := f42E N) (e := f42e N) (fn := Try.f42) (c := f42c) rfl (by kernel_rfl) (by kernel_rfl) (by kernel_rfl) (by kernel_rfl) rfl rfl (List.forall_mem_cons.2 ⟨f48v1ok N, (List.forall_mem_nil _)⟩) (LoopsOk.none (by kernel_rfl) (by kernel_rfl)) (by kernel_rfl) (by kernel_rfl) (by kernel_rfl) (fun x => f42q N x.2.1 x.2.2.1 x.2.2.2.1 x.2.2.2.2.1)

/-! f46v3: shawm/lap.laps$1 -/
abbrev f46v3p : Pat := ⟨[.box [.dat (.clo 42 .unit .unit)], .box [.vref 2], .vec 3 I], [(0, .dat (.agg (.pair I (.pair I .unit)))), (1, .bptr 0), (2, .bptr 1)]⟩
abbrev f46v3o : Pat := ⟨[.box [.dat (.clo 42 .unit .unit)], .box [.vref 2], .vec 3 I], []⟩
noncomputable def f46v3c : Code := (Try.f46.body).getD .skip
noncomputable def f46v3l0c : Code := (((loopsIn 0 f46v3c)[0]?).map (·.2)).getD .skip
abbrev f46v3l0p : Pat := ⟨[.box [.dat (.clo 42 .unit .unit)], .box [.vref 3], .box [.dat I, .dat I], .arr 3 I], [(1, .bptr 0), (2, .bptr 1), (3, .bptr 2), (9, .dat I), (10, .dat I)]⟩
abbrev f46v3l0x : List (Ex × Pat) := [(.exit 0, ⟨[.box [.dat (.clo 42 .unit .unit)], .box [.vref 3], .box [.dat I, .dat I], .arr 3 I], []⟩)]
def f46v3l0 (N : Nat) : Nat → (Unit × Unit) → Int → Int → (List Int) → Int → Int → Option ((((Unit × Unit) × Unit) × ((Unit × Unit) × ((Int × (Int × Unit)) × ((List Int) × Unit)))) × Unit)
  | 0, _, _, _, _, _, _ => none
  | n + 1, b0_0, b2_0, b2_1, v3, t9, t10 =>
    bif (decide (t10 < t9)) then (
     bif ((decide (0 ≤ (IntKind.i64.wrap ((IntKind.i64.wrap (b2_0 - 1)) - t10)))) && (decide ((IntKind.i64.wrap ((IntKind.i64.wrap (b2_0 - 1)) - t10)) < ((List.length v3 : Nat) : Int)))) then (
      bif ((decide (0 ≤ (IntKind.i64.wrap (b2_0 + t10)))) && (decide ((IntKind.i64.wrap (b2_0 + t10)) < ((List.length v3 : Nat) : Int)))) then (
       (f42F N (List.getD v3 (Int.toNat (IntKind.i64.wrap ((IntKind.i64.wrap (b2_0 - 1)) - t10))) 0) (List.getD v3 (Int.toNat (IntKind.i64.wrap (b2_0 + t10))) 0) (IntKind.i64.wrap ((IntKind.i64.wrap (b2_1 - (IntKind.i64.wrap (2 * t10)))) - 1)) (IntKind.i64.wrap (8 * b2_1))).bind fun y1 =>
       bif ((decide (0 ≤ (IntKind.i64.wrap ((IntKind.i64.wrap (b2_0 - 1)) - t10)))) && (decide ((IntKind.i64.wrap ((IntKind.i64.wrap (b2_0 - 1)) - t10)) < ((List.length v3 : Nat) : Int)))) then (
        bif ((decide (0 ≤ (IntKind.i64.wrap (b2_0 + t10)))) && (decide ((IntKind.i64.wrap (b2_0 + t10)) < ((List.length (List.set v3 (Int.toNat (IntKind.i64.wrap ((IntKind.i64.wrap (b2_0 - 1)) - t10))) y1.2.1) : Nat) : Int)))) then (
         (f46v3l0 N n b0_0 b2_0 b2_1 (List.set (List.set v3 (Int.toNat (IntKind.i64.wrap ((IntKind.i64.wrap (b2_0 - 1)) - t10))) y1.2.1) (Int.toNat (IntKind.i64.wrap (b2_0 + t10))) y1.2.2.1) t9 (IntKind.i64.wrap (t10 + 1))).bind some)
        else (
         none))
       else (
        none))
      else (
       none))
     else (
      none))
    else (
     some (((b0_0, ()), (((), ()), ((b2_0, (b2_1, ())), (v3, ())))), ()))
def f46v3l0L (N : Nat) : LoopE .unit := { blk := 0, pre := f46v3l0p, exits := f46v3l0x, wr := [4,5,6,10,11,12,13,14,15,16,17,18,19,20,21,22,23,24,25,26,27,28,29,30,31,32,33,34,35,36,37,38,39,40,41,42,43,44,45,46,47,48,49,50,51], F := fun x => f46v3l0 N N x.1.1.1 x.1.2.2.1.1 x.1.2.2.1.2.1 x.1.2.2.2.1 x.2.2.2.2.1 x.2.2.2.2.2.1 }
def f46v3F (N : Nat) (b0_0 : (Unit × Unit)) (v2 : (List Int)) (t0 : (Int × (Int × Unit))) : Option ((((Unit × Unit) × Unit) × ((Unit × Unit) × ((List Int) × Unit))) × Unit) :=
  (f46v3l0 N N b0_0 t0.1 t0.2.1 v2 (IntKind.i64.wrap (Int.tdiv t0.2.1 2)) 0).bind fun y2 =>
  some (((y2.1.1.1, ()), (((), ()), (y2.1.2.2.2.1, ()))), ())
def f46v3e (N : Nat) : Entry := { f := 46, pre := f46v3p, post := f46v3o, F := fun x => f46v3F N x.1.1.1 x.1.2.2.1 x.2.1 }
noncomputable def f46v3E (N : Nat) : Env .unit := { P := Try.prog, globs := globs, funs := [f42e N], loops := [f46v3l0L N], ranges := [] }
theorem f46v3l0s (N : Nat) (n1 : Nat) (g : Unit) (b0_0 : (Unit × Unit)) (b2_0 : Int) (b2_1 : Int) (v3 : (List Int)) (t9 : Int) (t10 : Int) : runLoop (sT := .unit) (f46v3E N) (sumTy f46v3l0x) f46v3l0x (fun _ y => y) f46v3l0c f46v3l0p (fun _ x => f46v3l0 N n1 x.1.1.1 x.1.2.2.1.1 x.1.2.2.1.2.1 x.1.2.2.2.1 x.2.2.2.2.1 x.2.2.2.2.2.1) g (((b0_0, ()), (((), ()), ((b2_0, (b2_1, ())), (v3, ())))), ((), ((), ((), (t9, (t10, ())))))) = f46v3l0 N (n1 + 1) b0_0 b2_0 b2_1 v3 t9 t10 := by
  kernel_rfl
theorem f46v3l0ok (N : Nat) : LoopOk (f46v3E N) Try.prog f46v3l0c (f46v3l0L N) :=
  loopOk (L := f46v3l0L N) (f := fun n x => f46v3l0 N n x.1.1.1 x.1.2.2.1.1 x.1.2.2.1.2.1 x.1.2.2.2.1 x.2.2.2.2.1 x.2.2.2.2.2.1) (N := N) (LoopsOk.none (by kernel_rfl) (by kernel_rfl)) (by kernel_rfl) (by kernel_rfl) rfl rfl (fun _ => rfl) (fun n1 g x => f46v3l0s N n1 g x.1.1.1 x.1.2.2.1.1 x.1.2.2.1.2.1 x.1.2.2.2.1 x.2.2.2.2.1 x.2.2.2.2.2.1)
theorem f46v3q (N : Nat) (b0_0 : (Unit × Unit)) (v2 : (List Int)) (t0 : (Int × (Int × Unit))) : runFun (f46v3E N) f46v3o.ty f46v3o (fun _ y => y) Try.f46 f46v3p () (((b0_0, ()), (((), ()), (v2, ()))), (t0, ((), ((), ())))) = f46v3F N b0_0 v2 t0 := by
  kernel_rfl
theorem f46v3ok (N : Nat) : EntryOk Try.prog globs (f46v3e N) :=
  funOk (E := f46v3E N) (e := f46v3e N) (fn := Try.f46) (c := f46v3c) rfl (by kernel_rfl) (by kernel_rfl) (by kernel_rfl) (by kernel_rfl) rfl rfl (List.forall_mem_cons.2 ⟨f42ok N, (List.forall_mem_nil _)⟩) (LoopsOk.both (l := [(0, f46v3l0c)]) (r := []) (by kernel_rfl) (by kernel_rfl) (List.forall_mem_cons.2 ⟨LoopFor.of (L := f46v3l0L N) (by kernel_rfl) (f46v3l0ok N) (by kernel_rfl), (List.forall_mem_nil _)⟩) (List.forall_mem_nil _)) (by kernel_rfl) (by kernel_rfl) (by kernel_rfl) (fun x => f46v3q N x.1.1.1 x.1.2.2.1 x.2.1)

end Go.Sh.c08

namespace Go.Sh.c08
open Go.Proofs

/-! f32v3: shawm/lap.laps -/
abbrev f32v3p : Pat := ⟨[.vec 3 I], [(0, .vref 0), (1, .dat (.list I)), (2, .dat (.clo 42 .unit .unit))]⟩
abbrev f32v3o : Pat := ⟨[.vec 3 I], []⟩
noncomputable def f32v3c : Code := (Try.f32.body).getD .skip
noncomputable def f32v3r0q : RangeC := ((rangesIn 0 f32v3c)[0]?).getD ⟨0, .tmp 0, #[], .skip, .skip⟩
noncomputable def f32v3r0b : Code := f32v3r0q.body
abbrev f32v3r0p : Pat := ⟨[.box [.cfn 46 [1, 2]], .box [.dat (.clo 42 .unit .unit)], .box [.vref 3], .arr 3 I], [(6, .bptr 0)]⟩
abbrev f32v3r0x : List (Ex × Pat) := []
def f32v3r0c (N : Nat) (y_0 : (Int × (Int × Unit))) (b1_0 : (Unit × Unit)) (v3 : (List Int)) : Option (((Unit × Unit) × (((Unit × Unit) × Unit) × ((Unit × Unit) × ((List Int) × Unit)))) ⊕ Unit) :=
  (f46v3F N b1_0 v3 (y_0.1, (y_0.2.1, ()))).bind fun y1 =>
  some (Sum.inl (((), ()), ((y1.1.1.1, ()), (((), ()), (y1.1.2.2.1, ())))))
def f32v3r0d (N : Nat) (y : ((Int × (Int × Unit)) × Unit)) (x : (((Unit × Unit) × (((Unit × Unit) × Unit) × ((Unit × Unit) × ((List Int) × Unit)))) × (Unit × Unit))) : Option (((Unit × Unit) × (((Unit × Unit) × Unit) × ((Unit × Unit) × ((List Int) × Unit)))) ⊕ Unit) := f32v3r0c N y.1 x.1.2.1.1 x.1.2.2.2.1
def f32v3r0F (N : Nat) (c : (Unit × ((List Int) × Unit))) (b1_0 : (Unit × Unit)) (v3 : (List Int)) : Option (((Unit × Unit) × (((Unit × Unit) × Unit) × ((Unit × Unit) × ((List Int) × Unit)))) × Unit) := (i67F N (.sum (.pair (.pair .unit .unit) (.pair (.pair (.clo 42 .unit .unit) .unit) (.pair (.pair .unit .unit) (.pair (.list I) .unit)))) .unit) (stepRound fun y o => f32v3r0d N y (o, ((), ()))) c.2.1 (Sum.inl (((), ()), ((b1_0, ()), (((), ()), (v3, ())))))).bind (finish f32v3r0p f32v3r0x)
def f32v3r0R (N : Nat) : RangeE := rangeE 0 (i67e N) f32v3r0p f32v3r0x (f32v3r0d N)
def f32v3F (N : Nat) (v0 : (List Int)) (t1 : (List Int)) (t2 : (Unit × Unit)) : Option (((List Int) × Unit) × Unit) :=
  (f47F N t1).bind fun y2 =>
  (f32v3r0F N y2.2.1 t2 v0).bind fun y3 =>
  some ((y3.1.2.2.2.1, ()), ())
def f32v3e (N : Nat) : Entry := { f := 32, pre := f32v3p, post := f32v3o, F := fun x => f32v3F N x.1.1 x.2.2.1 x.2.2.2.1 }
noncomputable def f32v3E (N : Nat) : Env .unit := { P := Try.prog, globs := globs, funs := [f47e N, f46v3e N], loops := [], ranges := [f32v3r0R N] }
theorem f32v3r0s (N : Nat) (g : Unit) (y_0 : (Int × (Int × Unit))) (b1_0 : (Unit × Unit)) (v3 : (List Int)) : runRound (sT := .unit) (f32v3E N) f32v3r0p f32v3r0x f32v3r0q.ps.toList f32v3r0q.assign f32v3r0q.body (i67e N).Y g (y_0, ()) ((((), ()), ((b1_0, ()), (((), ()), (v3, ())))), ((), ())) = f32v3r0d N (y_0, ()) ((((), ()), ((b1_0, ()), (((), ()), (v3, ())))), ((), ())) := by
  kernel_rfl
theorem f32v3r0ok (N : Nat) : RangeOk (f32v3E N) Try.prog f32v3r0q.f f32v3r0q.ps f32v3r0q.assign f32v3r0q.body (f32v3r0R N) :=
  rangeOk (E := f32v3E N) (it := i67e N) (pre := f32v3r0p) (exits := f32v3r0x) (round := f32v3r0d N) (i67ok N) rfl (fun g y x => f32v3r0s N g y.1 x.1.2.1.1 x.1.2.2.2.1) (LoopsOk.none (by kernel_rfl) (by kernel_rfl)) (LoopsOk.none (by kernel_rfl) (by kernel_rfl)) (by kernel_rfl) (by kernel_rfl) (by kernel_rfl) (by kernel_rfl)
theorem f32v3q (N : Nat) (v0 : (List Int)) (t1 : (List Int)) (t2 : (Unit × Unit)) : runFun (f32v3E N) f32v3o.ty f32v3o (fun _ y => y) Try.f32 f32v3p () ((v0, ()), ((), (t1, (t2, ())))) = f32v3F N v0 t1 t2 := by
  kernel_rfl
theorem f32v3ok (N : Nat) : EntryOk Try.prog globs (f32v3e N) :=
  funOk (E := f32v3E N) (e := f32v3e N) (fn := Try.f32) (c := f32v3c) rfl (by kernel_rfl) (by kernel_rfl) (by kernel_rfl) (by kernel_rfl) rfl rfl (List.forall_mem_cons.2 ⟨f47ok N, (List.forall_mem_cons.2 ⟨f46v3ok N, (List.forall_mem_nil _)⟩)⟩) (LoopsOk.both (l := []) (r := [f32v3r0q]) (by kernel_rfl) (by kernel_rfl) (List.forall_mem_nil _) (List.forall_mem_cons.2 ⟨RangeFor.of (L := f32v3r0R N) (by kernel_rfl) (f32v3r0ok N) rfl, (List.forall_mem_nil _)⟩)) (by kernel_rfl) (by kernel_rfl) (by kernel_rfl) (fun x => f32v3q N x.1.1 x.2.2.1 x.2.2.2.1)

/-! f21: shawm/lap.Unfold -/
abbrev f21p : Pat := ⟨[], [(0, .dat (.list I)), (1, .dat (.list I))]⟩
abbrev f21o : Pat := ⟨[.vec 3 I], [(0, .vref 0), (1, .dat I)]⟩
noncomputable def f21c : Code := (Try.f21.body).getD .skip
def f21F (N : Nat) (t0 : (List Int)) (t1 : (List Int)) : Option (((List Int) × Unit) × (Unit × (Int × Unit))) :=
  (f30F N t0 t1 33554432).bind fun y1 =>
  bif (y1.2.1 != 0) then (
   some ((([] : List Int), ()), ((), (y1.2.1, ()))))
  else (
   (f31F N t0).bind fun y2 =>
   (f32v3F N y2.1.1 t1 ((), ())).bind fun y3 =>
   some ((y3.1.1, ()), ((), (0, ()))))
def f21e (N : Nat) : Entry := { f := 21, pre := f21p, post := f21o, F := fun x => f21F N x.2.1 x.2.2.1 }
noncomputable def f21E (N : Nat) : Env .unit := { P := Try.prog, globs := globs, funs := [f30e N, f31e N, f32v3e N], loops := [], ranges := [] }
theorem f21q (N : Nat) (t0 : (List Int)) (t1 : (List Int)) : runFun (f21E N) f21o.ty f21o (fun _ y => y) Try.f21 f21p () ((), (t0, (t1, ()))) = f21F N t0 t1 := by
  kernel_rfl
theorem f21ok (N : Nat) : EntryOk Try.prog globs (f21e N) :=
  funOk (E := f21E N) (e := f21e N) (fn := Try.f21) (c := f21c) rfl (by kernel_rfl) (by kernel_rfl) (by kernel_rfl) (by kernel_rfl) rfl rfl (List.forall_mem_cons.2 ⟨f30ok N, (List.forall_mem_cons.2 ⟨f31ok N, (List.forall_mem_cons.2 ⟨f32v3ok N, (List.forall_mem_nil _)⟩)⟩)⟩) (LoopsOk.none (by kernel_rfl) (by kernel_rfl)) (by kernel_rfl) (by kernel_rfl) (by kernel_rfl) (fun x => f21q N x.2.1 x.2.2.1)

/-! f25: shawm/lap.Own -/
abbrev f25p : Pat := ⟨[], [(0, .dat (.list I)), (1, .dat I)]⟩
abbrev f25o : Pat := ⟨[], [(0, .dat I), (1, .dat I), (2, .dat I)]⟩
noncomputable def f25c : Code := (Try.f25.body).getD .skip
def f25F (N : Nat) (t0 : (List Int)) (t1 : Int) : Option (Unit × (Int × (Int × (Int × Unit)))) :=
  (f43F N t0).bind fun y1 =>
  bif (!y1.2.1) then (
   some ((), (0, (0, (1, ())))))
  else (
   bif (decide (t1 < 0)) then (
    some ((), (0, (0, (5, ())))))
   else (
    bif (decide (((List.length t0 : Nat) : Int) ≤ t1)) then (
     some ((), (0, (0, (5, ())))))
    else (
     bif ((true && (decide (0 ≤ t1))) && (decide (t1 ≤ ((List.length t0 : Nat) : Int)))) then (
      (f44F N (t0.take (Int.toNat t1))).bind fun y2 =>
      bif ((decide (0 ≤ t1)) && (decide (t1 < ((List.length t0 : Nat) : Int)))) then (
       bif (decide (0 < t1)) then (
        bif ((decide (0 ≤ (IntKind.i64.wrap (t1 - 1)))) && (decide ((IntKind.i64.wrap (t1 - 1)) < ((List.length t0 : Nat) : Int)))) then (
         bif ((decide (0 ≤ t1)) && (decide (t1 < ((List.length t0 : Nat) : Int)))) then (
          bif (decide ((IntKind.i64.wrap (t1 + 1)) < ((List.length t0 : Nat) : Int))) then (
           bif ((decide (0 ≤ t1)) && (decide (t1 < ((List.length t0 : Nat) : Int)))) then (
            bif ((decide (0 ≤ (IntKind.i64.wrap (t1 + 1)))) && (decide ((IntKind.i64.wrap (t1 + 1)) < ((List.length t0 : Nat) : Int)))) then (
             some ((), ((IntKind.i64.wrap (y2.2.1 + (IntKind.i64.wrap (Int.tdiv (if (List.getD t0 (Int.toNat t1) 0) < (List.getD t0 (Int.toNat (IntKind.i64.wrap (t1 - 1))) 0) then (List.getD t0 (Int.toNat t1) 0) else (List.getD t0 (Int.toNat (IntKind.i64.wrap (t1 - 1))) 0)) 2)))), ((IntKind.i64.wrap ((IntKind.i64.wrap (y2.2.1 + (List.getD t0 (Int.toNat t1) 0))) - (IntKind.i64.wrap (Int.tdiv (if (List.getD t0 (Int.toNat (IntKind.i64.wrap (t1 + 1))) 0) < (List.getD t0 (Int.toNat t1) 0) then (List.getD t0 (Int.toNat (IntKind.i64.wrap (t1 + 1))) 0) else (List.getD t0 (Int.toNat t1) 0)) 2)))), (0, ())))))
            else (
             none))
           else (
            none))
          else (
           some ((), ((IntKind.i64.wrap (y2.2.1 + (IntKind.i64.wrap (Int.tdiv (if (List.getD t0 (Int.toNat t1) 0) < (List.getD t0 (Int.toNat (IntKind.i64.wrap (t1 - 1))) 0) then (List.getD t0 (Int.toNat t1) 0) else (List.getD t0 (Int.toNat (IntKind.i64.wrap (t1 - 1))) 0)) 2)))), ((IntKind.i64.wrap (y2.2.1 + (List.getD t0 (Int.toNat t1) 0))), (0, ()))))))
         else (
          none))
        else (
         none))
       else (
        bif (decide ((IntKind.i64.wrap (t1 + 1)) < ((List.length t0 : Nat) : Int))) then (
         bif ((decide (0 ≤ t1)) && (decide (t1 < ((List.length t0 : Nat) : Int)))) then (
          bif ((decide (0 ≤ (IntKind.i64.wrap (t1 + 1)))) && (decide ((IntKind.i64.wrap (t1 + 1)) < ((List.length t0 : Nat) : Int)))) then (
           some ((), (y2.2.1, ((IntKind.i64.wrap ((IntKind.i64.wrap (y2.2.1 + (List.getD t0 (Int.toNat t1) 0))) - (IntKind.i64.wrap (Int.tdiv (if (List.getD t0 (Int.toNat (IntKind.i64.wrap (t1 + 1))) 0) < (List.getD t0 (Int.toNat t1) 0) then (List.getD t0 (Int.toNat (IntKind.i64.wrap (t1 + 1))) 0) else (List.getD t0 (Int.toNat t1) 0)) 2)))), (0, ())))))
          else (
           none))
         else (
          none))
        else (
         some ((), (y2.2.1, ((IntKind.i64.wrap (y2.2.1 + (List.getD t0 (Int.toNat t1) 0))), (0, ())))))))
      else (
       none))
     else (
      none))))
def f25e (N : Nat) : Entry := { f := 25, pre := f25p, post := f25o, F := fun x => f25F N x.2.1 x.2.2.1 }
noncomputable def f25E (N : Nat) : Env .unit := { P := Try.prog, globs := globs, funs := [f43e N, f44e N], loops := [], ranges := [] }
theorem f25q (N : Nat) (t0 : (List Int)) (t1 : Int) : runFun (f25E N) f25o.ty f25o (fun _ y => y) Try.f25 f25p () ((), (t0, (t1, ()))) = f25F N t0 t1 := by
  kernel_rfl
theorem f25ok (N : Nat) : EntryOk Try.prog globs (f25e N) :=
  funOk (E := f25E N) (e := f25e N) (fn := Try.f25) (c := f25c) rfl (by kernel_rfl) (by kernel_rfl) (by kernel_rfl) (by kernel_rfl) rfl rfl (List.forall_mem_cons.2 ⟨f43ok N, (List.forall_mem_cons.2 ⟨f44ok N, (List.forall_mem_nil _)⟩)⟩) (LoopsOk.none (by kernel_rfl) (by kernel_rfl)) (by kernel_rfl) (by kernel_rfl) (by kernel_rfl) (fun x => f25q N x.2.1 x.2.2.1)

/-! f51: shawm/dct.isSize -/
abbrev f51p : Pat := ⟨[], [(0, .dat I), (1, .dat I), (2, .dat I)]⟩
abbrev f51o : Pat := ⟨[], [(0, .dat .bool)]⟩
noncomputable def f51c : Code := (Try.f51.body).getD .skip
def f51F (N : Nat) (t0 : Int) (t1 : Int) (t2 : Int) : Option (Unit × (Bool × Unit)) :=
  bif (decide (t1 ≤ t0)) then (
   bif (decide (t0 ≤ t2)) then (
    some ((), (((IntKind.i64.wrap ((BitVec.ofInt 64 t0 &&& BitVec.ofInt 64 (IntKind.i64.wrap (t0 - 1)))).toNat) == 0), ())))
   else (
    some ((), (false, ()))))
  else (
   some ((), (false, ())))
def f51e (N : Nat) : Entry := { f := 51, pre := f51p, post := f51o, F := fun x => f51F N x.2.1 x.2.2.1 x.2.2.2.1 }
noncomputable def f51E (N : Nat) : Env .unit := { P := Try.prog, globs := globs, funs := [], loops := [], ranges := [] }
theorem f51q (N : Nat) (t0 : Int) (t1 : Int) (t2 : Int) : runFun (f51E N) f51o.ty f51o (fun _ y => y) Try.f51 f51p () ((), (t0, (t1, (t2, ())))) = f51F N t0 t1 t2 := by
  kernel_rfl
theorem f51ok (N : Nat) : EntryOk Try.prog globs (f51e N) :=
  funOk (E := f51E N) (e := f51e N) (fn := Try.f51) (c := f51c) rfl (by kernel_rfl) (by kernel_rfl) (by kernel_rfl) (by kernel_rfl) rfl rfl (List.forall_mem_nil _) (LoopsOk.none (by kernel_rfl) (by kernel_rfl)) (by kernel_rfl) (by kernel_rfl) (by kernel_rfl) (fun x => f51q N x.2.1 x.2.2.1 x.2.2.2.1)

/-! f52: shawm/dct.within -/
abbrev f52p : Pat := ⟨[], [(0, .dat I), (1, .dat (.list (.list I)))]⟩
abbrev f52o : Pat := ⟨[], [(0, .dat .bool)]⟩
noncomputable def f52c : Code := (Try.f52.body).getD .skip
noncomputable def f52l0c : Code := (((loopsIn 0 f52c)[0]?).map (·.2)).getD .skip
noncomputable def f52l2c : Code := (((loopsIn 0 f52l0c)[0]?).map (·.2)).getD .skip
abbrev f52l2p : Pat := ⟨[], [(0, .dat I), (15, .dat (.list I)), (16, .dat I), (17, .dat I)]⟩
abbrev f52l2x : List (Ex × Pat) := [(.exit 2, ⟨[], []⟩), (.ret, ⟨[], [(4, .dat .bool)]⟩)]
def f52l2 (N : Nat) : Nat → Int → (List Int) → Int → Int → Option ((Unit × Unit) ⊕ (Unit × (Bool × Unit)))
  | 0, _, _, _, _ => none
  | n + 1, t0, t15, t16, t17 =>
    bif (decide (t17 < t16)) then (
     bif ((decide (0 ≤ t17)) && (decide (t17 < ((List.length t15 : Nat) : Int)))) then (
      bif (decide ((List.getD t15 (Int.toNat t17) 0) < (IntKind.i64.wrap (0 - t0)))) then (
       some (Sum.inr ((), (false, ()))))
      else (
       bif (decide (t0 < (List.getD t15 (Int.toNat t17) 0))) then (
        some (Sum.inr ((), (false, ()))))
       else (
        (f52l2 N n t0 t15 t16 (IntKind.i64.wrap (t17 + 1))).bind some)))
     else (
      none))
    else (
     some (Sum.inl ((), ())))
def f52l2L (N : Nat) : LoopE .unit := { blk := 2, pre := f52l2p, exits := f52l2x, wr := [4,8,17,18,19,20,21,22,23,24,25,26,27,28,29,30], F := fun x => f52l2 N N x.2.1 x.2.2.1 x.2.2.2.1 x.2.2.2.2.1 }
abbrev f52l0p : Pat := ⟨[], [(0, .dat I), (9, .dat (.list (.list I))), (10, .dat I), (11, .dat I)]⟩
abbrev f52l0x : List (Ex × Pat) := [(.exit 0, ⟨[], []⟩), (.ret, ⟨[], [(4, .dat .bool)]⟩)]
def f52l0 (N : Nat) : Nat → Int → (List (List Int)) → Int → Int → Option ((Unit × Unit) ⊕ (Unit × (Bool × Unit)))
  | 0, _, _, _, _ => none
  | n + 1, t0, t9, t10, t11 =>
    bif (decide (t11 < t10)) then (
     bif ((decide (0 ≤ t11)) && (decide (t11 < ((List.length t9 : Nat) : Int)))) then (
      (f52l2 N N t0 (List.getD t9 (Int.toNat t11) ([] : (List Int))) ((List.length (List.getD t9 (Int.toNat t11) ([] : (List Int))) : Nat) : Int) 0).bind fun y1 =>
      Sum.elim (fun u2 =>
        (f52l0 N n t0 t9 t10 (IntKind.i64.wrap (t11 + 1))).bind some)
       (fun w3 =>
        some (Sum.inr ((), (w3.2.1, ())))) y1)
     else (
      none))
    else (
     some (Sum.inl ((), ())))
def f52l0L (N : Nat) : LoopE .unit := { blk := 0, pre := f52l0p, exits := f52l0x, wr := [4,6,8,11,12,13,14,15,16,17,18,19,20,21,22,23,24,25,26,27,28,29,30,31], F := fun x => f52l0 N N x.2.1 x.2.2.1 x.2.2.2.1 x.2.2.2.2.1 }
def f52F (N : Nat) (t0 : Int) (t1 : (List (List Int))) : Option (Unit × (Bool × Unit)) :=
  (f52l0 N N t0 t1 ((List.length t1 : Nat) : Int) 0).bind fun y4 =>
  Sum.elim (fun u5 =>
    some ((), (true, ())))
   (fun w6 =>
    some ((), (w6.2.1, ()))) y4
def f52e (N : Nat) : Entry := { f := 52, pre := f52p, post := f52o, F := fun x => f52F N x.2.1 x.2.2.1 }
noncomputable def f52E (N : Nat) : Env .unit := { P := Try.prog, globs := globs, funs := [], loops := [f52l0L N, f52l2L N], ranges := [] }
theorem f52l2s (N : Nat) (n1 : Nat) (g : Unit) (t0 : Int) (t15 : (List Int)) (t16 : Int) (t17 : Int) : runLoop (sT := .unit) (f52E N) (sumTy f52l2x) f52l2x (fun _ y => y) f52l2c f52l2p (fun _ x => f52l2 N n1 x.2.1 x.2.2.1 x.2.2.2.1 x.2.2.2.2.1) g ((), (t0, (t15, (t16, (t17, ()))))) = f52l2 N (n1 + 1) t0 t15 t16 t17 := by
  kernel_rfl
theorem f52l2ok (N : Nat) : LoopOk (f52E N) Try.prog f52l2c (f52l2L N) :=
  loopOk (L := f52l2L N) (f := fun n x => f52l2 N n x.2.1 x.2.2.1 x.2.2.2.1 x.2.2.2.2.1) (N := N) (LoopsOk.none (by kernel_rfl) (by kernel_rfl)) (by kernel_rfl) (by kernel_rfl) rfl rfl (fun _ => rfl) (fun n1 g x => f52l2s N n1 g x.2.1 x.2.2.1 x.2.2.2.1 x.2.2.2.2.1)
theorem f52l0s (N : Nat) (n1 : Nat) (g : Unit) (t0 : Int) (t9 : (List (List Int))) (t10 : Int) (t11 : Int) : runLoop (sT := .unit) (f52E N) (sumTy f52l0x) f52l0x (fun _ y => y) f52l0c f52l0p (fun _ x => f52l0 N n1 x.2.1 x.2.2.1 x.2.2.2.1 x.2.2.2.2.1) g ((), (t0, (t9, (t10, (t11, ()))))) = f52l0 N (n1 + 1) t0 t9 t10 t11 := by
  kernel_rfl
theorem f52l0ok (N : Nat) : LoopOk (f52E N) Try.prog f52l0c (f52l0L N) :=
  loopOk (L := f52l0L N) (f := fun n x => f52l0 N n x.2.1 x.2.2.1 x.2.2.2.1 x.2.2.2.2.1) (N := N) (LoopsOk.both (l := [(2, f52l2c)]) (r := []) (by kernel_rfl) (by kernel_rfl) (List.forall_mem_cons.2 ⟨LoopFor.of (L := f52l2L N) (by kernel_rfl) (f52l2ok N) (by kernel_rfl), (List.forall_mem_nil _)⟩) (List.forall_mem_nil _)) (by kernel_rfl) (by kernel_rfl) rfl rfl (fun _ => rfl) (fun n1 g x => f52l0s N n1 g x.2.1 x.2.2.1 x.2.2.2.1 x.2.2.2.2.1)
theorem f52q (N : Nat) (t0 : Int) (t1 : (List (List Int))) : runFun (f52E N) f52o.ty f52o (fun _ y => y) Try.f52 f52p () ((), (t0, (t1, ()))) = f52F N t0 t1 := by
  kernel_rfl
theorem f52ok (N : Nat) : EntryOk Try.prog globs (f52e N) :=
  funOk (E := f52E N) (e := f52e N) (fn := Try.f52) (c := f52c) rfl (by kernel_rfl) (by kernel_rfl) (by kernel_rfl) (by kernel_rfl) rfl rfl (List.forall_mem_nil _) (LoopsOk.both (l := [(0, f52l0c)]) (r := []) (by kernel_rfl) (by kernel_rfl) (List.forall_mem_cons.2 ⟨LoopFor.of (L := f52l0L N) (by kernel_rfl) (f52l0ok N) (by kernel_rfl), (List.forall_mem_nil _)⟩) (List.forall_mem_nil _)) (by kernel_rfl) (by kernel_rfl) (by kernel_rfl) (fun x => f52q N x.2.1 x.2.2.1)

/-! f53: shawm/dct.forth -/
abbrev f53p : Pat := ⟨[], []⟩
abbrev f53o : Pat := ⟨[], [(0, .dat (.agg (.pair .bool (.pair (.clo 33 .unit .unit) .unit))))]⟩
noncomputable def f53c : Code := (Try.f53.body).getD .skip
def f53F (N : Nat)  : Option (Unit × ((Bool × ((Unit × Unit) × Unit)) × Unit)) :=
  some ((), ((false, (((), ()), ())), ()))
def f53e (N : Nat) : Entry := { f := 53, pre := f53p, post := f53o, F := fun x => f53F N  }
noncomputable def f53E (N : Nat) : Env .unit := { P := Try.prog, globs := globs, funs := [], loops := [], ranges := [] }
theorem f53q (N : Nat)  : runFun (f53E N) f53o.ty f53o (fun _ y => y) Try.f53 f53p () ((), ()) = f53F N  := by
  kernel_rfl
theorem f53ok (N : Nat) : EntryOk Try.prog globs (f53e N) :=
  funOk (E := f53E N) (e := f53e N) (fn := Try.f53) (c := f53c) rfl (by kernel_rfl) (by kernel_rfl) (by kernel_rfl) (by kernel_rfl) rfl rfl (List.forall_mem_nil _) (LoopsOk.none (by kernel_rfl) (by kernel_rfl)) (by kernel_rfl) (by kernel_rfl) (by kernel_rfl) (fun x => f53q N )

/-! f54: shawm/dct.places -/
abbrev f54p : Pat := ⟨[], [(0, .dat I)]⟩
abbrev f54o : Pat := ⟨[], [(0, .dat (.clo 73 .unit (.pair (.ref I) .unit)))]⟩
noncomputable def f54c : Code := (Try.f54.body).getD .skip
def f54F (N : Nat) (t0 : Int) : Option (Unit × ((Unit × (Int × Unit)) × Unit)) :=
  some ((), (((), (t0, ())), ()))
def f54e (N : Nat) : Entry := { f := 54, pre := f54p, post := f54o, F := fun x => f54F N x.2.1 }
noncomputable def f54E (N : Nat) : Env .unit := { P := Try.prog, globs := globs, funs := [], loops := [], ranges := [] }
theorem f54q (N : Nat) (t0 : Int) : runFun (f54E N) f54o.ty f54o (fun _ y => y) Try.f54 f54p () ((), (t0, ())) = f54F N t0 := by
  kernel_rfl
theorem f54ok (N : Nat) : EntryOk Try.prog globs (f54e N) :=
  funOk (E := f54E N) (e := f54e N) (fn := Try.f54) (c := f54c) rfl (by kernel_rfl) (by kernel_rfl) (by kernel_rfl) (by kernel_rfl) rfl rfl (List.forall_mem_nil _) (LoopsOk.none (by kernel_rfl) (by kernel_rfl)) (by kernel_rfl) (by kernel_rfl) (by kernel_rfl) (fun x => f54q N x.2.1)

/-! i73: shawm/dct.places$1 -/
noncomputable def i73c : Code := (Try.f73.body).getD .skip
noncomputable def i73l0c : Code := (((loopsIn 0 i73c)[0]?).map (·.2)).getD .skip
abbrev i73l0p : Pat := ⟨[], [(0, .yld), (1, .dat (.ref I)), (5, .dat I), (6, .dat I)]⟩
abbrev i73l0x : List (Ex × Pat) := [(.exit 0, ⟨[], []⟩), (.ret, ⟨[], []⟩)]
def i73l0 (N : Nat) (sT : Ty) (step : (Int × ((Int × (Int × Unit)) × Unit)) → sT.den → Option (Bool × sT.den)) : Nat → Int → Int → Int → sT.den → Option (sT.den × ((Unit × Unit) ⊕ (Unit × Unit)))
  | 0, _, _, _, _ => none
  | n + 1, t1, t5, t6, g =>
    bif (decide (t6 < t5)) then (
     (step (t6, (((IntKind.i64.wrap (2 * t6)), ((IntKind.i64.wrap ((IntKind.i64.wrap (t1 - 1)) - (IntKind.i64.wrap (2 * t6)))), ())), ())) g).bind fun r1 =>
     bif (!r1.1) then (
      some (r1.2, (Sum.inr ((), ()))))
     else (
      (i73l0 N sT step n t1 t5 (IntKind.i64.wrap (t6 + 1)) r1.2).bind some))
    else (
     some (g, (Sum.inl ((), ()))))
def i73l0L (N : Nat) (sT : Ty) (step : (Int × ((Int × (Int × Unit)) × Unit)) → sT.den → Option (Bool × sT.den)) : LoopE sT := { blk := 0, pre := i73l0p, exits := i73l0x, wr := [3,6,7,8,9,10,11,12,13,14,15,16,17,18,19,20,21], F := fun _ => none, G := some fun g x => i73l0 N sT step N x.2.2.1 x.2.2.2.1 x.2.2.2.2.1 g }
def i73F (N : Nat) (sT : Ty) (step : (Int × ((Int × (Int × Unit)) × Unit)) → sT.den → Option (Bool × sT.den)) (c0 : Int) (g : sT.den) : Option sT.den :=
  (i73l0 N sT step N c0 (IntKind.i64.wrap (Int.tdiv c0 2)) 0 g).bind fun y2 =>
  Sum.elim (fun u3 =>
    some y2.1)
   (fun w4 =>
    some y2.1) y2.2
def i73e (N : Nat) : IterE := { f := 73, a := .unit, b := (.pair (.ref I) .unit), Y := (.pair I (.pair (.agg (.pair I (.pair I .unit))) .unit)), F := fun sT step z g => i73F N sT step z.2.1 g }
noncomputable def i73E (N : Nat) (sT : Ty) (step : (Int × ((Int × (Int × Unit)) × Unit)) → sT.den → Option (Bool × sT.den)) : Env sT := iterEnv Try.prog globs [] (.pair I (.pair (.agg (.pair I (.pair I .unit))) .unit)) [i73l0L N sT step] step
theorem i73l0s (N : Nat) (sT : Ty) (step : (Int × ((Int × (Int × Unit)) × Unit)) → sT.den → Option (Bool × sT.den)) (n1 : Nat) (g : sT.den) (t1 : Int) (t5 : Int) (t6 : Int) : runLoop (sT := sT) (i73E N sT step) (.pair sT (sumTy i73l0x)) i73l0x (fun g y => (g, y)) i73l0c i73l0p (fun g x => i73l0 N sT step n1 x.2.2.1 x.2.2.2.1 x.2.2.2.2.1 g) g ((), ((), (t1, (t5, (t6, ()))))) = i73l0 N sT step (n1 + 1) t1 t5 t6 g := by
  kernel_rfl
theorem i73l0ok (N : Nat) (sT : Ty) (step : (Int × ((Int × (Int × Unit)) × Unit)) → sT.den → Option (Bool × sT.den)) : LoopOk (i73E N sT step) Try.prog i73l0c (i73l0L N sT step) :=
  loopOkG (L := i73l0L N sT step) (f := fun n g x => i73l0 N sT step n x.2.2.1 x.2.2.2.1 x.2.2.2.2.1 g) (N := N) (LoopsOk.none (by kernel_rfl) (by kernel_rfl)) (by kernel_rfl) (by kernel_rfl) rfl (fun _ _ => rfl) (fun n1 g x => i73l0s N sT step n1 g x.2.2.1 x.2.2.2.1 x.2.2.2.2.1)
theorem i73q (N : Nat) (sT : Ty) (step : (Int × ((Int × (Int × Unit)) × Unit)) → sT.den → Option (Bool × sT.den)) (c0 : Int) (g : sT.den) : runIter (i73E N sT step) .unit (.pair (.ref I) .unit) i73c g ((), (c0, ())) = i73F N sT step c0 g := by
  kernel_rfl
theorem i73ok (N : Nat) : IterOk Try.prog globs (i73e N) :=
  iterOk (it := i73e N) (funs := []) (loops := fun sT step => [i73l0L N sT step]) (fn := Try.f73) (c := i73c) (by kernel_rfl) (by kernel_rfl) (by kernel_rfl) (by kernel_rfl) (List.forall_mem_nil _) (fun sT step => (LoopsOk.both (l := [(0, i73l0c)]) (r := []) (by kernel_rfl) (by kernel_rfl) (List.forall_mem_cons.2 ⟨LoopFor.of (L := i73l0L N sT step) (by kernel_rfl) (i73l0ok N sT step) (by kernel_rfl), (List.forall_mem_nil _)⟩) (List.forall_mem_nil _))) (by kernel_rfl) rfl (by kernel_rfl) (fun sT step z g => i73q N sT step z.2.1 g)

/-! f55: (shawm/dct.way).turned -/
abbrev f55p : Pat := ⟨[], [(0, .dat (.agg (.pair .bool (.pair (.clo 33 .unit .unit) .unit)))), (1, .dat (.agg (.pair I (.pair I .unit)))), (2, .dat I), (3, .dat I)]⟩
abbrev f55o : Pat := ⟨[], [(0, .dat (.agg (.pair I (.pair I .unit))))]⟩
noncomputable def f55c : Code := (Try.f55.body).getD .skip
def f55F (N : Nat) (t0 : (Bool × ((Unit × Unit) × Unit))) (t1 : (Int × (Int × Unit))) (t2 : Int) (t3 : Int) : Option (Unit × ((Int × (Int × Unit)) × Unit)) :=
  (f33F N t1.1 t1.2.1 t2 t3).bind fun y1 =>
  some ((), ((y1.2.1, (y1.2.2.1, ())), ()))
def f55e (N : Nat) : Entry := { f := 55, pre := f55p, post := f55o, F := fun x => f55F N x.2.1 x.2.2.1 x.2.2.2.1 x.2.2.2.2.1 }
noncomputable def f55E (N : Nat) : Env .unit := { P := Try.prog, globs := globs, funs := [f33e N], loops := [], ranges := [] }
theorem f55q (N : Nat) (t0 : (Bool × ((Unit × Unit) × Unit))) (t1 : (Int × (Int × Unit))) (t2 : Int) (t3 : Int) : runFun (f55E N) f55o.ty f55o (fun _ y => y) Try.f55 f55p () ((), (t0, (t1, (t2, (t3, ()))))) = f55F N t0 t1 t2 t3 := by
  kernel_rfl
theorem f55ok (N : Nat) : EntryOk Try.prog globs (f55e N) :=
  funOk (E := f55E N) (e := f55e N) (fn := Try.f55) (c := f55c) rfl (by kernel_rfl) (by kernel_rfl) (by kernel_rfl) (by kernel_rfl) rfl rfl (List.forall_mem_cons.2 ⟨f33ok N, (List.forall_mem_nil _)⟩) (LoopsOk.none (by kernel_rfl) (by kernel_rfl)) (by kernel_rfl) (by kernel_rfl) (by kernel_rfl) (fun x => f55q N x.2.1 x.2.2.1 x.2.2.2.1 x.2.2.2.2.1)

/-! f75: shawm/dct.every[shawm/dct.pair] -/
abbrev f75p : Pat := ⟨[], [(0, .dat (.list (.agg (.pair I (.pair I .unit))))), (1, .dat I)]⟩
abbrev f75o : Pat := ⟨[.vec 80 (.agg (.pair I (.pair I .unit)))], [(0, .vref 0)]⟩
noncomputable def f75c : Code := (Try.f75.body).getD .skip
noncomputable def f75l0c : Code := (((loopsIn 0 f75c)[0]?).map (·.2)).getD .skip
abbrev f75l0p : Pat := ⟨[.vec 80 (.agg (.pair I (.pair I .unit)))], [(0, .dat (.list (.agg (.pair I (.pair I .unit))))), (5, .vref 0), (6, .dat I)]⟩
abbrev f75l0x : List (Ex × Pat) := [(.exit 0, ⟨[.vec 80 (.agg (.pair I (.pair I .unit)))], [(5, .vref 0)]⟩)]
def f75l0 (N : Nat) : Nat → (List (Int × (Int × Unit))) → (List (Int × (Int × Unit))) → Int → Option (((List (Int × (Int × Unit))) × Unit) × (Unit × Unit))
  | 0, _, _, _ => none
  | n + 1, v0, t0, t6 =>
    bif (decide (t6 < ((List.length t0 : Nat) : Int))) then (
     bif ((decide (0 ≤ t6)) && (decide (t6 < ((List.length t0 : Nat) : Int)))) then (
      bif (decide ((List.length v0 + List.length [((List.getD t0 (Int.toNat t6) (0, (0, ()))).1, ((List.getD t0 (Int.toNat t6) (0, (0, ()))).2.1, ()))]) * 16 ≤ 140737488355328)) then (
       (f75l0 N n (List.append v0 [((List.getD t0 (Int.toNat t6) (0, (0, ()))).1, ((List.getD t0 (Int.toNat t6) (0, (0, ()))).2.1, ()))]) t0 (IntKind.i64.wrap (t6 + 2))).bind some)
      else (
       none))
     else (
      none))
    else (
     some ((v0, ()), ((), ())))
def f75l0L (N : Nat) : LoopE .unit := { blk := 0, pre := f75l0p, exits := f75l0x, wr := [5,6,8,9,10,11,12,13,14,15,16,17,18,19,20], F := fun x => f75l0 N N x.1.1 x.2.1 x.2.2.2.1 }
def f75F (N : Nat) (t0 : (List (Int × (Int × Unit)))) (t1 : Int) : Option (((List (Int × (Int × Unit))) × Unit) × (Unit × Unit)) :=
  (f75l0 N N ([] : List (Int × (Int × Unit))) t0 t1).bind fun y1 =>
  some ((y1.1.1, ()), ((), ()))
def f75e (N : Nat) : Entry := { f := 75, pre := f75p, post := f75o, F := fun x => f75F N x.2.1 x.2.2.1 }
noncomputable def f75E (N : Nat) : Env .unit := { P := Try.prog, globs := globs, funs := [], loops := [f75l0L N], ranges := [] }
theorem f75l0s (N : Nat) (n1 : Nat) (g : Unit) (v0 : (List (Int × (Int × Unit)))) (t0 : (List (Int × (Int × Unit)))) (t6 : Int) : runLoop (sT := .unit) (f75E N) (sumTy f75l0x) f75l0x (fun _ y => y) f75l0c f75l0p (fun _ x => f75l0 N n1 x.1.1 x.2.1 x.2.2.2.1) g ((v0, ()), (t0, ((), (t6, ())))) = f75l0 N (n1 + 1) v0 t0 t6 := by
  kernel_rfl
theorem f75l0ok (N : Nat) : LoopOk (f75E N) Try.prog f75l0c (f75l0L N) :=
  loopOk (L := f75l0L N) (f := fun n x => f75l0 N n x.1.1 x.2.1 x.2.2.2.1) (N := N) (LoopsOk.none (by kernel_rfl) (by kernel_rfl)) (by kernel_rfl) (by kernel_rfl) rfl rfl (fun _ => rfl) (fun n1 g x => f75l0s N n1 g x.1.1 x.2.1 x.2.2.2.1)
theorem f75q (N : Nat) (t0 : (List (Int × (Int × Unit)))) (t1 : Int) : runFun (f75E N) f75o.ty f75o (fun _ y => y) Try.f75 f75p () ((), (t0, (t1, ()))) = f75F N t0 t1 := by
  kernel_rfl
theorem f75ok (N : Nat) : EntryOk Try.prog globs (f75e N) :=
  funOk (E := f75E N) (e := f75e N) (fn := Try.f75) (c := f75c) rfl (by kernel_rfl) (by kernel_rfl) (by kernel_rfl) (by kernel_rfl) rfl rfl (List.forall_mem_nil _) (LoopsOk.both (l := [(0, f75l0c)]) (r := []) (by kernel_rfl) (by kernel_rfl) (List.forall_mem_cons.2 ⟨LoopFor.of (L := f75l0L N) (by kernel_rfl) (f75l0ok N) (by kernel_rfl), (List.forall_mem_nil _)⟩) (List.forall_mem_nil _)) (by kernel_rfl) (by kernel_rfl) (by kernel_rfl) (fun x => f75q N x.2.1 x.2.2.1)

end Go.Sh.c08

namespace Go.Sh.c08
open Go.Proofs

/-! f74: (shawm/dct.way).mixed$1 -/
abbrev f74p : Pat := ⟨[.box [.cfn 74 [0, 1]], .box [.dat .bool, .dat (.clo 33 .unit .unit)]], [(0, .dat (.list (.agg (.pair I (.pair I .unit))))), (1, .bptr 0), (2, .bptr 1)]⟩
abbrev f74o : Pat := ⟨[.box [.cfn 74 [0, 1]], .box [.dat .bool, .dat (.clo 33 .unit .unit)], .vec 80 (.agg (.pair I (.pair I .unit)))], [(0, .vref 2)]⟩
noncomputable def f74c : Code := (Try.f74.body).getD .skip
noncomputable def f74l0c : Code := (((loopsIn 0 f74c)[0]?).map (·.2)).getD .skip
noncomputable def f74l2c : Code := (((loopsIn 0 f74l0c)[0]?).map (·.2)).getD .skip
abbrev f74l2p : Pat := ⟨[.box [.dat .bool, .dat (.clo 33 .unit .unit)], .box [.dat I, .dat I], .vec 80 (.agg (.pair I (.pair I .unit))), .vec 80 (.agg (.pair I (.pair I .unit)))], [(2, .bptr 0), (5, .dat (.list (.agg (.pair I (.pair I .unit))))), (7, .vref 2), (8, .vref 3), (9, .dat I), (10, .bptr 1), (49, .dat I)]⟩
abbrev f74l2x : List (Ex × Pat) := [(.exit 2, ⟨[.box [.dat .bool, .dat (.clo 33 .unit .unit)], .box [.dat I, .dat I], .vec 80 (.agg (.pair I (.pair I .unit))), .vec 80 (.agg (.pair I (.pair I .unit)))], [(7, .vref 2), (8, .vref 3)]⟩)]
def f74l2 (N : Nat) : Nat → Bool → (Unit × Unit) → Int → Int → (List (Int × (Int × Unit))) → (List (Int × (Int × Unit))) → (List (Int × (Int × Unit))) → Int → Int → Option (((Bool × ((Unit × Unit) × Unit)) × ((Int × (Int × Unit)) × ((List (Int × (Int × Unit))) × ((List (Int × (Int × Unit))) × Unit)))) × (Unit × (Unit × Unit)))
  | 0, _, _, _, _, _, _, _, _, _ => none
  | n + 1, b0_0, b0_1, b1_0, b1_1, v2, v3, t5, t9, t49 =>
    bif (decide (t49 < 2)) then (
     bif ((decide (0 ≤ t9)) && (decide (t9 < ((List.length t5 : Nat) : Int)))) then (
      bif (t49 == 1) then (
       bif (t49 == 1) then (
        (f55F N (b0_0, (b0_1, ())) ((List.getD t5 (Int.toNat t9) (0, (0, ()))).2.1, (b1_1, ())) (-1) 8).bind fun y1 =>
        bif ((decide (0 ≤ t9)) && (decide (t9 < ((List.length v2 : Nat) : Int)))) then (
         bif (t49 == 1) then (
          bif ((decide (0 ≤ t9)) && (decide (t9 < ((List.length v3 : Nat) : Int)))) then (
           bif (t49 == 1) then (
            (f74l2 N n b0_0 b0_1 b1_0 b1_1 (List.set v2 (Int.toNat t9) ((List.getD v2 (Int.toNat t9) (0, (0, ()))).1, (y1.2.1.1, ()))) (List.set v3 (Int.toNat t9) ((List.getD v3 (Int.toNat t9) (0, (0, ()))).1, ((IntKind.i64.wrap (0 - y1.2.1.2.1)), ()))) t5 t9 (IntKind.i64.wrap (t49 + 1))).bind some)
           else (
            bif (t49 == 0) then (
             (f74l2 N n b0_0 b0_1 b1_0 b1_1 (List.set v2 (Int.toNat t9) ((List.getD v2 (Int.toNat t9) (0, (0, ()))).1, (y1.2.1.1, ()))) (List.set v3 (Int.toNat t9) ((IntKind.i64.wrap (0 - y1.2.1.2.1)), ((List.getD v3 (Int.toNat t9) (0, (0, ()))).2.1, ()))) t5 t9 (IntKind.i64.wrap (t49 + 1))).bind some)
            else (
             none)))
          else (
           none))
         else (
          bif (t49 == 0) then (
           bif ((decide (0 ≤ t9)) && (decide (t9 < ((List.length v3 : Nat) : Int)))) then (
            bif (t49 == 1) then (
             (f74l2 N n b0_0 b0_1 b1_0 b1_1 (List.set v2 (Int.toNat t9) (y1.2.1.1, ((List.getD v2 (Int.toNat t9) (0, (0, ()))).2.1, ()))) (List.set v3 (Int.toNat t9) ((List.getD v3 (Int.toNat t9) (0, (0, ()))).1, ((IntKind.i64.wrap (0 - y1.2.1.2.1)), ()))) t5 t9 (IntKind.i64.wrap (t49 + 1))).bind some)
            else (
             bif (t49 == 0) then (
              (f74l2 N n b0_0 b0_1 b1_0 b1_1 (List.set v2 (Int.toNat t9) (y1.2.1.1, ((List.getD v2 (Int.toNat t9) (0, (0, ()))).2.1, ()))) (List.set v3 (Int.toNat t9) ((IntKind.i64.wrap (0 - y1.2.1.2.1)), ((List.getD v3 (Int.toNat t9) (0, (0, ()))).2.1, ()))) t5 t9 (IntKind.i64.wrap (t49 + 1))).bind some)
             else (
              none)))
           else (
            none))
          else (
           none)))
        else (
         none))
       else (
        bif (t49 == 0) then (
         (f55F N (b0_0, (b0_1, ())) ((List.getD t5 (Int.toNat t9) (0, (0, ()))).2.1, (b1_0, ())) (-1) 8).bind fun y2 =>
         bif ((decide (0 ≤ t9)) && (decide (t9 < ((List.length v2 : Nat) : Int)))) then (
          bif (t49 == 1) then (
           bif ((decide (0 ≤ t9)) && (decide (t9 < ((List.length v3 : Nat) : Int)))) then (
            bif (t49 == 1) then (
             (f74l2 N n b0_0 b0_1 b1_0 b1_1 (List.set v2 (Int.toNat t9) ((List.getD v2 (Int.toNat t9) (0, (0, ()))).1, (y2.2.1.1, ()))) (List.set v3 (Int.toNat t9) ((List.getD v3 (Int.toNat t9) (0, (0, ()))).1, ((IntKind.i64.wrap (0 - y2.2.1.2.1)), ()))) t5 t9 (IntKind.i64.wrap (t49 + 1))).bind some)
            else (
             bif (t49 == 0) then (
              (f74l2 N n b0_0 b0_1 b1_0 b1_1 (List.set v2 (Int.toNat t9) ((List.getD v2 (Int.toNat t9) (0, (0, ()))).1, (y2.2.1.1, ()))) (List.set v3 (Int.toNat t9) ((IntKind.i64.wrap (0 - y2.2.1.2.1)), ((List.getD v3 (Int.toNat t9) (0, (0, ()))).2.1, ()))) t5 t9 (IntKind.i64.wrap (t49 + 1))).bind some)
             else (
              none)))
           else (
            none))
          else (
           bif (t49 == 0) then (
            bif ((decide (0 ≤ t9)) && (decide (t9 < ((List.length v3 : Nat) : Int)))) then (
             bif (t49 == 1) then (
              (f74l2 N n b0_0 b0_1 b1_0 b1_1 (List.set v2 (Int.toNat t9) (y2.2.1.1, ((List.getD v2 (Int.toNat t9) (0, (0, ()))).2.1, ()))) (List.set v3 (Int.toNat t9) ((List.getD v3 (Int.toNat t9) (0, (0, ()))).1, ((IntKind.i64.wrap (0 - y2.2.1.2.1)), ()))) t5 t9 (IntKind.i64.wrap (t49 + 1))).bind some)
             else (
              bif (t49 == 0) then (
               (f74l2 N n b0_0 b0_1 b1_0 b1_1 (List.set v2 (Int.toNat t9) (y2.2.1.1, ((List.getD v2 (Int.toNat t9) (0, (0, ()))).2.1, ()))) (List.set v3 (Int.toNat t9) ((IntKind.i64.wrap (0 - y2.2.1.2.1)), ((List.getD v3 (Int.toNat t9) (0, (0, ()))).2.1, ()))) t5 t9 (IntKind.i64.wrap (t49 + 1))).bind some)
              else (
               none)))
            else (
             none))
           else (
            none)))
         else (
          none))
        else (
         none)))
      else (
       bif (t49 == 0) then (
        bif (t49 == 1) then (
         (f55F N (b0_0, (b0_1, ())) ((List.getD t5 (Int.toNat t9) (0, (0, ()))).1, (b1_1, ())) (-1) 8).bind fun y3 =>
         bif ((decide (0 ≤ t9)) && (decide (t9 < ((List.length v2 : Nat) : Int)))) then (
          bif (t49 == 1) then (
           bif ((decide (0 ≤ t9)) && (decide (t9 < ((List.length v3 : Nat) : Int)))) then (
            bif (t49 == 1) then (
             (f74l2 N n b0_0 b0_1 b1_0 b1_1 (List.set v2 (Int.toNat t9) ((List.getD v2 (Int.toNat t9) (0, (0, ()))).1, (y3.2.1.1, ()))) (List.set v3 (Int.toNat t9) ((List.getD v3 (Int.toNat t9) (0, (0, ()))).1, ((IntKind.i64.wrap (0 - y3.2.1.2.1)), ()))) t5 t9 (IntKind.i64.wrap (t49 + 1))).bind some)
            else (
             bif (t49 == 0) then (
              (f74l2 N n b0_0 b0_1 b1_0 b1_1 (List.set v2 (Int.toNat t9) ((List.getD v2 (Int.toNat t9) (0, (0, ()))).1, (y3.2.1.1, ()))) (List.set v3 (Int.toNat t9) ((IntKind.i64.wrap (0 - y3.2.1.2.1)), ((List.getD v3 (Int.toNat t9) (0, (0, ()))).2.1, ()))) t5 t9 (IntKind.i64.wrap (t49 + 1))).bind some)
             else (
              none)))
           else (
            none))
          else (
           bif (t49 == 0) then (
            bif ((decide (0 ≤ t9)) && (decide (t9 < ((List.length v3 : Nat) : Int)))) then (
             bif (t49 == 1) then (
              (f74l2 N n b0_0 b0_1 b1_0 b1_1 (List.set v2 (Int.toNat t9) (y3.2.1.1, ((List.getD v2 (Int.toNat t9) (0, (0, ()))).2.1, ()))) (List.set v3 (Int.toNat t9) ((List.getD v3 (Int.toNat t9) (0, (0, ()))).1, ((IntKind.i64.wrap (0 - y3.2.1.2.1)), ()))) t5 t9 (IntKind.i64.wrap (t49 + 1))).bind some)
             else (
              bif (t49 == 0) then (
               (f74l2 N n b0_0 b0_1 b1_0 b1_1 (List.set v2 (Int.toNat t9) (y3.2.1.1, ((List.getD v2 (Int.toNat t9) (0, (0, ()))).2.1, ()))) (List.set v3 (Int.toNat t9) ((IntKind.i64.wrap (0 - y3.2.1.2.1)), ((List.getD v3 (Int.toNat t9) (0, (0, ()))).2.1, ()))) t5 t9 (IntKind.i64.wrap (t49 + 1))).bind some)
              else (
               none)))
            else (
             none))
           else (
            none)))
         else (
          none))
        else (
         bif (t49 == 0) then (
          (f55F N (b0_0, (b0_1, ())) ((List.getD t5 (Int.toNat t9) (0, (0, ()))).1, (b1_0, ())) (-1) 8).bind fun y4 =>
          bif ((decide (0 ≤ t9)) && (decide (t9 < ((List.length v2 : Nat) : Int)))) then (
           bif (t49 == 1) then (
            bif ((decide (0 ≤ t9)) && (decide (t9 < ((List.length v3 : Nat) : Int)))) then (
             bif (t49 == 1) then (
              (f74l2 N n b0_0 b0_1 b1_0 b1_1 (List.set v2 (Int.toNat t9) ((List.getD v2 (Int.toNat t9) (0, (0, ()))).1, (y4.2.1.1, ()))) (List.set v3 (Int.toNat t9) ((List.getD v3 (Int.toNat t9) (0, (0, ()))).1, ((IntKind.i64.wrap (0 - y4.2.1.2.1)), ()))) t5 t9 (IntKind.i64.wrap (t49 + 1))).bind some)
             else (
              bif (t49 == 0) then (
               (f74l2 N n b0_0 b0_1 b1_0 b1_1 (List.set v2 (Int.toNat t9) ((List.getD v2 (Int.toNat t9) (0, (0, ()))).1, (y4.2.1.1, ()))) (List.set v3 (Int.toNat t9) ((IntKind.i64.wrap (0 - y4.2.1.2.1)), ((List.getD v3 (Int.toNat t9) (0, (0, ()))).2.1, ()))) t5 t9 (IntKind.i64.wrap (t49 + 1))).bind some)
              else (
               none)))
            else (
             none))
           else (
            bif (t49 == 0) then (
             bif ((decide (0 ≤ t9)) && (decide (t9 < ((List.length v3 : Nat) : Int)))) then (
              bif (t49 == 1) then (
               (f74l2 N n b0_0 b0_1 b1_0 b1_1 (List.set v2 (Int.toNat t9) (y4.2.1.1, ((List.getD v2 (Int.toNat t9) (0, (0, ()))).2.1, ()))) (List.set v3 (Int.toNat t9) ((List.getD v3 (Int.toNat t9) (0, (0, ()))).1, ((IntKind.i64.wrap (0 - y4.2.1.2.1)), ()))) t5 t9 (IntKind.i64.wrap (t49 + 1))).bind some)
              else (
               bif (t49 == 0) then (
                (f74l2 N n b0_0 b0_1 b1_0 b1_1 (List.set v2 (Int.toNat t9) (y4.2.1.1, ((List.getD v2 (Int.toNat t9) (0, (0, ()))).2.1, ()))) (List.set v3 (Int.toNat t9) ((IntKind.i64.wrap (0 - y4.2.1.2.1)), ((List.getD v3 (Int.toNat t9) (0, (0, ()))).2.1, ()))) t5 t9 (IntKind.i64.wrap (t49 + 1))).bind some)
               else (
                none)))
             else (
              none))
            else (
             none)))
          else (
           none))
         else (
          none)))
       else (
        none)))
     else (
      none))
    else (
     some (((b0_0, (b0_1, ())), ((b1_0, (b1_1, ())), (v2, (v3, ())))), ((), ((), ()))))
def f74l2L (N : Nat) : LoopE .unit := { blk := 2, pre := f74l2p, exits := f74l2x, wr := [11,12,49,50,51,52,53,54,55,56,57,58,59,60,61,62,63,64,65,66,67,68,69,70,71,72,73,74,75,76,77,78,79], F := fun x => f74l2 N N x.1.1.1 x.1.1.2.1 x.1.2.1.1 x.1.2.1.2.1 x.1.2.2.1 x.1.2.2.2.1 x.2.2.1 x.2.2.2.2.2.1 x.2.2.2.2.2.2.2.1 }
abbrev f74l0p : Pat := ⟨[.box [.dat .bool, .dat (.clo 33 .unit .unit)], .vec 80 (.agg (.pair I (.pair I .unit))), .vec 80 (.agg (.pair I (.pair I .unit)))], [(0, .dat (.list (.agg (.pair I (.pair I .unit))))), (2, .bptr 0), (5, .dat (.list (.agg (.pair I (.pair I .unit))))), (6, .dat (.list (.agg (.pair I (.pair I .unit))))), (7, .vref 1), (8, .vref 2), (35, .dat I), (36, .dat I)]⟩
abbrev f74l0x : List (Ex × Pat) := [(.exit 0, ⟨[.box [.dat .bool, .dat (.clo 33 .unit .unit)], .vec 80 (.agg (.pair I (.pair I .unit))), .vec 80 (.agg (.pair I (.pair I .unit)))], [(7, .vref 1), (8, .vref 2)]⟩)]
def f74l0 (N : Nat) : Nat → Bool → (Unit × Unit) → (List (Int × (Int × Unit))) → (List (Int × (Int × Unit))) → (List (Int × (Int × Unit))) → (List (Int × (Int × Unit))) → (List (Int × (Int × Unit))) → Int → Int → Option (((Bool × ((Unit × Unit) × Unit)) × ((List (Int × (Int × Unit))) × ((List (Int × (Int × Unit))) × Unit))) × (Unit × (Unit × Unit)))
  | 0, _, _, _, _, _, _, _, _, _ => none
  | n + 1, b0_0, b0_1, v1, v2, t0, t5, t6, t35, t36 =>
    bif (decide (t36 < t35)) then (
     bif ((decide (0 ≤ t36)) && (decide (t36 < ((List.length t6 : Nat) : Int)))) then (
      (f55F N (b0_0, (b0_1, ())) ((List.getD t6 (Int.toNat t36) (0, (0, ()))).1, ((List.getD t6 (Int.toNat t36) (0, (0, ()))).2.1, ())) (IntKind.i64.wrap (0 - t36)) ((List.length t0 : Nat) : Int)).bind fun y5 =>
      (f74l2 N N b0_0 b0_1 y5.2.1.1 y5.2.1.2.1 v1 v2 t5 t36 0).bind fun y6 =>
      (f74l0 N n y6.1.1.1 y6.1.1.2.1 y6.1.2.2.1 y6.1.2.2.2.1 t0 t5 t6 t35 (IntKind.i64.wrap (t36 + 1))).bind some)
     else (
      none))
    else (
     some (((b0_0, (b0_1, ())), (v1, (v2, ()))), ((), ((), ()))))
def f74l0L (N : Nat) : LoopE .unit := { blk := 0, pre := f74l0p, exits := f74l0x, wr := [9,10,11,12,36,37,38,39,40,41,42,43,44,45,46,47,48,49,50,51,52,53,54,55,56,57,58,59,60,61,62,63,64,65,66,67,68,69,70,71,72,73,74,75,76,77,78,79,80], F := fun x => f74l0 N N x.1.1.1 x.1.1.2.1 x.1.2.1 x.1.2.2.1 x.2.1 x.2.2.2.1 x.2.2.2.2.1 x.2.2.2.2.2.2.2.1 x.2.2.2.2.2.2.2.2.1 }
def f74F (N : Nat) : Nat → Bool → (Unit × Unit) → (List (Int × (Int × Unit))) → Option (((Unit × Unit) × ((Bool × ((Unit × Unit) × Unit)) × ((List (Int × (Int × Unit))) × Unit))) × (Unit × Unit))
  | 0, _, _, _ => none
  | n + 1, b1_0, b1_1, t0 =>
    bif (((List.length t0 : Nat) : Int) == 1) then (
     bif (true && (decide (0 < ((List.length t0 : Nat) : Int)))) then (
      some ((((), ()), ((b1_0, (b1_1, ())), ([((List.getD t0 0 (0, (0, ()))).1, ((List.getD t0 0 (0, (0, ()))).2.1, ()))], ()))), ((), ())))
     else (
      none))
    else (
     (f75F N t0 0).bind fun y7 =>
     (f74F N n b1_0 b1_1 y7.1.1).bind fun y8 =>
     (f75F N t0 1).bind fun y9 =>
     (f74F N n y8.1.2.1.1 y8.1.2.1.2.1 y9.1.1).bind fun y10 =>
     bif ((((List.length y8.1.2.2.1 : Nat) : Int) == ((List.length y8.1.2.2.1 : Nat) : Int)) && (decide (0 ≤ ((List.length y8.1.2.2.1 : Nat) : Int))) && (decide (((List.length y8.1.2.2.1 : Nat) : Int) * 16 ≤ 140737488355328))) then (
      bif ((((List.length y8.1.2.2.1 : Nat) : Int) == ((List.length y8.1.2.2.1 : Nat) : Int)) && (decide (0 ≤ ((List.length y8.1.2.2.1 : Nat) : Int))) && (decide (((List.length y8.1.2.2.1 : Nat) : Int) * 16 ≤ 140737488355328))) then (
       (f74l0 N N y10.1.2.1.1 y10.1.2.1.2.1 (List.replicate (Int.toNat ((List.length y8.1.2.2.1 : Nat) : Int)) ((0, (0, ())) : (Int × (Int × Unit)))) (List.replicate (Int.toNat ((List.length y8.1.2.2.1 : Nat) : Int)) ((0, (0, ())) : (Int × (Int × Unit)))) t0 y8.1.2.2.1 y10.1.2.2.1 ((List.length y8.1.2.2.1 : Nat) : Int) 0).bind fun y11 =>
       bif (((true && (decide (0 ≤ ((List.length y11.1.2.1 : Nat) : Int)))) && ((decide (((List.length y11.1.2.1 : Nat) : Int) ≤ ((List.length y11.1.2.1 : Nat) : Int))) && (decide (((List.length y11.1.2.1 : Nat) : Int) ≤ ((List.length y11.1.2.1 : Nat) : Int))))) && (((List.length y11.1.2.1 : Nat) : Int) == ((List.length y11.1.2.1 : Nat) : Int))) then (
        bif ((decide (List.length y11.1.2.2.1 ≠ 0)) && (decide ((((Int.toNat ((List.length y11.1.2.1 : Nat) : Int)) - 0) + List.length y11.1.2.2.1) * 16 ≤ 140737488355328))) then (
         some ((((), ()), ((y11.1.1.1, (y11.1.1.2.1, ())), ((List.append (y11.1.2.1.take ((Int.toNat ((List.length y11.1.2.1 : Nat) : Int)) - 0)) y11.1.2.2.1), ()))), ((), ())))
        else (
         none))
       else (
        none))
      else (
       none))
     else (
      none))
def f74e (N n : Nat) : Entry := { f := 74, pre := f74p, post := f74o, F := fun x => f74F N n x.1.2.1.1 x.1.2.1.2.1 x.2.1 }
noncomputable def f74E (N n : Nat) : Env .unit := { P := Try.prog, globs := globs, funs := [f75e N, f74e N n, f55e N], loops := [f74l0L N, f74l2L N], ranges := [] }
theorem f74l2s (N n : Nat) (n1 : Nat) (g : Unit) (b0_0 : Bool) (b0_1 : (Unit × Unit)) (b1_0 : Int) (b1_1 : Int) (v2 : (List (Int × (Int × Unit)))) (v3 : (List (Int × (Int × Unit)))) (t5 : (List (Int × (Int × Unit)))) (t9 : Int) (t49 : Int) : runLoop (sT := .unit) (f74E N n) (sumTy f74l2x) f74l2x (fun _ y => y) f74l2c f74l2p (fun _ x => f74l2 N n1 x.1.1.1 x.1.1.2.1 x.1.2.1.1 x.1.2.1.2.1 x.1.2.2.1 x.1.2.2.2.1 x.2.2.1 x.2.2.2.2.2.1 x.2.2.2.2.2.2.2.1) g (((b0_0, (b0_1, ())), ((b1_0, (b1_1, ())), (v2, (v3, ())))), ((), (t5, ((), ((), (t9, ((), (t49, ())))))))) = f74l2 N (n1 + 1) b0_0 b0_1 b1_0 b1_1 v2 v3 t5 t9 t49 := by
  kernel_rfl
theorem f74l2ok (N n : Nat) : LoopOk (f74E N n) Try.prog f74l2c (f74l2L N) :=
  loopOk (L := f74l2L N) (f := fun n x => f74l2 N n x.1.1.1 x.1.1.2.1 x.1.2.1.1 x.1.2.1.2.1 x.1.2.2.1 x.1.2.2.2.1 x.2.2.1 x.2.2.2.2.2.1 x.2.2.2.2.2.2.2.1) (N := N) (LoopsOk.none (by kernel_rfl) (by kernel_rfl)) (by kernel_rfl) (by kernel_rfl) rfl rfl (fun _ => rfl) (fun n1 g x => f74l2s N n n1 g x.1.1.1 x.1.1.2.1 x.1.2.1.1 x.1.2.1.2.1 x.1.2.2.1 x.1.2.2.2.1 x.2.2.1 x.2.2.2.2.2.1 x.2.2.2.2.2.2.2.1)
theorem f74l0s (N n : Nat) (n1 : Nat) (g : Unit) (b0_0 : Bool) (b0_1 : (Unit × Unit)) (v1 : (List (Int × (Int × Unit)))) (v2 : (List (Int × (Int × Unit)))) (t0 : (List (Int × (Int × Unit)))) (t5 : (List (Int × (Int × Unit)))) (t6 : (List (Int × (Int × Unit)))) (t35 : Int) (t36 : Int) : runLoop (sT := .unit) (f74E N n) (sumTy f74l0x) f74l0x (fun _ y => y) f74l0c f74l0p (fun _ x => f74l0 N n1 x.1.1.1 x.1.1.2.1 x.1.2.1 x.1.2.2.1 x.2.1 x.2.2.2.1 x.2.2.2.2.1 x.2.2.2.2.2.2.2.1 x.2.2.2.2.2.2.2.2.1) g (((b0_0, (b0_1, ())), (v1, (v2, ()))), (t0, ((), (t5, (t6, ((), ((), (t35, (t36, ()))))))))) = f74l0 N (n1 + 1) b0_0 b0_1 v1 v2 t0 t5 t6 t35 t36 := by
  kernel_rfl
theorem f74l0ok (N n : Nat) : LoopOk (f74E N n) Try.prog f74l0c (f74l0L N) :=
  loopOk (L := f74l0L N) (f := fun n x => f74l0 N n x.1.1.1 x.1.1.2.1 x.1.2.1 x.1.2.2.1 x.2.1 x.2.2.2.1 x.2.2.2.2.1 x.2.2.2.2.2.2.2.1 x.2.2.2.2.2.2.2.2.1) (N := N) (LoopsOk.both (l := [(2, f74l2c)]) (r := []) (by kernel_rfl) (by kernel_rfl) (List.forall_mem_cons.2 ⟨LoopFor.of (L := f74l2L N) (by kernel_rfl) (f74l2ok N n) (by kernel_rfl), (List.forall_mem_nil _)⟩) (List.forall_mem_nil _)) (by kernel_rfl) (by kernel_rfl) rfl rfl (fun _ => rfl) (fun n1 g x => f74l0s N n n1 g x.1.1.1 x.1.1.2.1 x.1.2.1 x.1.2.2.1 x.2.1 x.2.2.2.1 x.2.2.2.2.1 x.2.2.2.2.2.2.2.1 x.2.2.2.2.2.2.2.2.1)
theorem f74q (N n : Nat) (b1_0 : Bool) (b1_1 : (Unit × Unit)) (t0 : (List (Int × (Int × Unit)))) : runFun (f74E N n) f74o.ty f74o (fun _ y => y) Try.f74 f74p () ((((), ()), ((b1_0, (b1_1, ())), ())), (t0, ((), ((), ())))) = f74F N (n + 1) b1_0 b1_1 t0 := by
  kernel_rfl
theorem f74ok (N : Nat) : ∀ n, EntryOk Try.prog globs (f74e N n) := by
  intro n
  induction n with
  | zero => exact EntryOk.zero (by kernel_rfl : Try.prog.funcs[74]? = some Try.f74) (by kernel_rfl : Try.f74.body = some f74c) (by kernel_rfl) (fun _ => rfl)
  | succ n ih =>
    refine funOk (E := f74E N n) (e := f74e N (n + 1)) (fn := Try.f74) (c := f74c) rfl (by kernel_rfl) (by kernel_rfl) (by kernel_rfl) (by kernel_rfl) rfl rfl (List.forall_mem_cons.2 ⟨f75ok N, (List.forall_mem_cons.2 ⟨ih, (List.forall_mem_cons.2 ⟨f55ok N, (List.forall_mem_nil _)⟩)⟩)⟩) (LoopsOk.both (l := [(0, f74l0c)]) (r := []) (by kernel_rfl) (by kernel_rfl) (List.forall_mem_cons.2 ⟨LoopFor.of (L := f74l0L N) (by kernel_rfl) (f74l0ok N n) (by kernel_rfl), (List.forall_mem_nil _)⟩) (List.forall_mem_nil _)) (by kernel_rfl) (by kernel_rfl) (by kernel_rfl) (fun x => f74q N n x.1.2.1.1 x.1.2.1.2.1 x.2.1)

/-! f56: (shawm/dct.way).mixed -/
abbrev f56p : Pat := ⟨[], [(0, .dat (.agg (.pair .bool (.pair (.clo 33 .unit .unit) .unit)))), (1, .dat (.list (.agg (.pair I (.pair I .unit)))))]⟩
abbrev f56o : Pat := ⟨[.vec 80 (.agg (.pair I (.pair I .unit)))], [(0, .vref 0)]⟩
noncomputable def f56c : Code := (Try.f56.body).getD .skip
def f56F (N : Nat) (t0 : (Bool × ((Unit × Unit) × Unit))) (t1 : (List (Int × (Int × Unit)))) : Option (((List (Int × (Int × Unit))) × Unit) × (Unit × Unit)) :=
  (f74F N N t0.1 t0.2.1 t1).bind fun y1 =>
  some ((y1.1.2.2.1, ()), ((), ()))
def f56e (N : Nat) : Entry := { f := 56, pre := f56p, post := f56o, F := fun x => f56F N x.2.1 x.2.2.1 }
noncomputable def f56E (N : Nat) : Env .unit := { P := Try.prog, globs := globs, funs := [f74e N N], loops := [], ranges := [] }
theorem f56q (N : Nat) (t0 : (Bool × ((Unit × Unit) × Unit))) (t1 : (List (Int × (Int × Unit)))) : runFun (f56E N) f56o.ty f56o (fun _ y => y) Try.f56 f56p () ((), (t0, (t1, ()))) = f56F N t0 t1 := by
  kernel_rfl
theorem f56ok (N : Nat) : EntryOk Try.prog globs (f56e N) :=
  funOk (E := f56E N) (e := f56e N) (fn := Try.f56) (c := f56c) rfl (by kernel_rfl) (by kernel_rfl) (by kernel_rfl) (by kernel_rfl) rfl rfl (List.forall_mem_cons.2 ⟨f74ok N N, (List.forall_mem_nil _)⟩) (LoopsOk.none (by kernel_rfl) (by kernel_rfl)) (by kernel_rfl) (by kernel_rfl) (by kernel_rfl) (fun x => f56q N x.2.1 x.2.2.1)

/-! f35: shawm/dct.Forward -/
abbrev f35p : Pat := ⟨[], [(0, .dat (.list I))]⟩
abbrev f35o : Pat := ⟨[.vec 3 I], [(0, .vref 0), (1, .dat I)]⟩
noncomputable def f35c : Code := (Try.f35.body).getD .skip
noncomputable def f35r1q : RangeC := ((rangesIn 0 f35c)[0]?).getD ⟨0, .tmp 0, #[], .skip, .skip⟩
noncomputable def f35r1b : Code := f35r1q.body
abbrev f35r1p : Pat := ⟨[.box [.dat (.list I)], .box [.dat I], .box [.dat .bool, .dat (.clo 33 .unit .unit)], .box [.vref 4], .vec 80 (.agg (.pair I (.pair I .unit)))], [(1, .bptr 0), (4, .bptr 1), (5, .bptr 2), (6, .bptr 3)]⟩
abbrev f35r1x : List (Ex × Pat) := []
def f35r1c (N : Nat) (y_0 : Int) (y_1 : (Int × (Int × Unit))) (b0_0 : (List Int)) (b1_0 : Int) (b2_0 : Bool) (b2_1 : (Unit × Unit)) (v4 : (List (Int × (Int × Unit)))) : Option ((((List Int) × Unit) × ((Int × Unit) × ((Bool × ((Unit × Unit) × Unit)) × ((Unit × Unit) × ((List (Int × (Int × Unit))) × Unit))))) ⊕ Unit) :=
  bif ((decide (0 ≤ y_1.1)) && (decide (y_1.1 < ((List.length b0_0 : Nat) : Int)))) then (
   bif ((decide (0 ≤ y_1.2.1)) && (decide (y_1.2.1 < ((List.length b0_0 : Nat) : Int)))) then (
    (f55F N (b2_0, (b2_1, ())) ((List.getD b0_0 (Int.toNat y_1.1) 0), ((List.getD b0_0 (Int.toNat y_1.2.1) 0), ())) (IntKind.i64.wrap (0 - (IntKind.i64.wrap ((IntKind.i64.wrap (8 * y_0)) + 1)))) (IntKind.i64.wrap (16 * b1_0))).bind fun y1 =>
    bif ((decide (0 ≤ y_0)) && (decide (y_0 < ((List.length v4 : Nat) : Int)))) then (
     some (Sum.inl ((b0_0, ()), ((b1_0, ()), ((b2_0, (b2_1, ())), (((), ()), ((List.set v4 (Int.toNat y_0) (y1.2.1.1, (y1.2.1.2.1, ()))), ())))))))
    else (
     none))
   else (
    none))
  else (
   none)
def f35r1d (N : Nat) (y : (Int × ((Int × (Int × Unit)) × Unit))) (x : ((((List Int) × Unit) × ((Int × Unit) × ((Bool × ((Unit × Unit) × Unit)) × ((Unit × Unit) × ((List (Int × (Int × Unit))) × Unit))))) × (Unit × (Unit × (Unit × (Unit × Unit)))))) : Option ((((List Int) × Unit) × ((Int × Unit) × ((Bool × ((Unit × Unit) × Unit)) × ((Unit × Unit) × ((List (Int × (Int × Unit))) × Unit))))) ⊕ Unit) := f35r1c N y.1 y.2.1 x.1.1.1 x.1.2.1.1 x.1.2.2.1.1 x.1.2.2.1.2.1 x.1.2.2.2.2.1
def f35r1F (N : Nat) (c : (Unit × (Int × Unit))) (b0_0 : (List Int)) (b1_0 : Int) (b2_0 : Bool) (b2_1 : (Unit × Unit)) (v4 : (List (Int × (Int × Unit)))) : Option ((((List Int) × Unit) × ((Int × Unit) × ((Bool × ((Unit × Unit) × Unit)) × ((Unit × Unit) × ((List (Int × (Int × Unit))) × Unit))))) × Unit) := (i73F N (.sum (.pair (.pair (.list I) .unit) (.pair (.pair I .unit) (.pair (.pair .bool (.pair (.clo 33 .unit .unit) .unit)) (.pair (.pair .unit .unit) (.pair (.list (.agg (.pair I (.pair I .unit)))) .unit))))) .unit) (stepRound fun y o => f35r1d N y (o, ((), ((), ((), ((), ())))))) c.2.1 (Sum.inl ((b0_0, ()), ((b1_0, ()), ((b2_0, (b2_1, ())), (((), ()), (v4, ()))))))).bind (finish f35r1p f35r1x)
def f35r1R (N : Nat) : RangeE := rangeE 1 (i73e N) f35r1p f35r1x (f35r1d N)
noncomputable def f35r3q : RangeC := ((rangesIn 0 f35c)[1]?).getD ⟨0, .tmp 0, #[], .skip, .skip⟩
noncomputable def f35r3b : Code := f35r3q.body
abbrev f35r3p : Pat := ⟨[.box [.dat I], .box [.dat .bool, .dat (.clo 33 .unit .unit)], .box [.vref 4], .box [.vref 5], .vec 80 (.agg (.pair I (.pair I .unit))), .vec 3 I], [(4, .bptr 0), (5, .bptr 1), (6, .bptr 2), (9, .bptr 3)]⟩
abbrev f35r3x : List (Ex × Pat) := []
def f35r3c (N : Nat) (y_0 : Int) (y_1 : (Int × (Int × Unit))) (b0_0 : Int) (b1_0 : Bool) (b1_1 : (Unit × Unit)) (v4 : (List (Int × (Int × Unit)))) (v5 : (List Int)) : Option (((Int × Unit) × ((Bool × ((Unit × Unit) × Unit)) × ((Unit × Unit) × ((Unit × Unit) × ((List (Int × (Int × Unit))) × ((List Int) × Unit)))))) ⊕ Unit) :=
  bif ((decide (0 ≤ y_0)) && (decide (y_0 < ((List.length v4 : Nat) : Int)))) then (
   (f55F N (b1_0, (b1_1, ())) ((List.getD v4 (Int.toNat y_0) (0, (0, ()))).1, ((List.getD v4 (Int.toNat y_0) (0, (0, ()))).2.1, ())) (IntKind.i64.wrap (0 - (IntKind.i64.wrap ((IntKind.i64.wrap (8 * y_0)) + 1)))) (IntKind.i64.wrap (16 * b0_0))).bind fun y2 =>
   bif ((decide (0 ≤ y_1.1)) && (decide (y_1.1 < ((List.length v5 : Nat) : Int)))) then (
    bif ((decide (0 ≤ y_1.2.1)) && (decide (y_1.2.1 < ((List.length (List.set v5 (Int.toNat y_1.1) y2.2.1.1) : Nat) : Int)))) then (
     some (Sum.inl ((b0_0, ()), ((b1_0, (b1_1, ())), (((), ()), (((), ()), (v4, ((List.set (List.set v5 (Int.toNat y_1.1) y2.2.1.1) (Int.toNat y_1.2.1) (IntKind.i64.wrap (0 - y2.2.1.2.1))), ()))))))))
    else (
     none))
   else (
    none))
  else (
   none)
def f35r3d (N : Nat) (y : (Int × ((Int × (Int × Unit)) × Unit))) (x : (((Int × Unit) × ((Bool × ((Unit × Unit) × Unit)) × ((Unit × Unit) × ((Unit × Unit) × ((List (Int × (Int × Unit))) × ((List Int) × Unit)))))) × (Unit × (Unit × (Unit × (Unit × Unit)))))) : Option (((Int × Unit) × ((Bool × ((Unit × Unit) × Unit)) × ((Unit × Unit) × ((Unit × Unit) × ((List (Int × (Int × Unit))) × ((List Int) × Unit)))))) ⊕ Unit) := f35r3c N y.1 y.2.1 x.1.1.1 x.1.2.1.1 x.1.2.1.2.1 x.1.2.2.2.2.1 x.1.2.2.2.2.2.1
def f35r3F (N : Nat) (c : (Unit × (Int × Unit))) (b0_0 : Int) (b1_0 : Bool) (b1_1 : (Unit × Unit)) (v4 : (List (Int × (Int × Unit)))) (v5 : (List Int)) : Option (((Int × Unit) × ((Bool × ((Unit × Unit) × Unit)) × ((Unit × Unit) × ((Unit × Unit) × ((List (Int × (Int × Unit))) × ((List Int) × Unit)))))) × Unit) := (i73F N (.sum (.pair (.pair I .unit) (.pair (.pair .bool (.pair (.clo 33 .unit .unit) .unit)) (.pair (.pair .unit .unit) (.pair (.pair .unit .unit) (.pair (.list (.agg (.pair I (.pair I .unit)))) (.pair (.list I) .unit)))))) .unit) (stepRound fun y o => f35r3d N y (o, ((), ((), ((), ((), ())))))) c.2.1 (Sum.inl ((b0_0, ()), ((b1_0, (b1_1, ())), (((), ()), (((), ()), (v4, (v5, ())))))))).bind (finish f35r3p f35r3x)
def f35r3R (N : Nat) : RangeE := rangeE 3 (i73e N) f35r3p f35r3x (f35r3d N)
def f35F (N : Nat) (t0 : (List Int)) : Option (((List Int) × Unit) × (Unit × (Int × Unit))) :=
  (f51F N ((List.length t0 : Nat) : Int) 2 128).bind fun y3 =>
  bif (!y3.2.1) then (
   some ((([] : List Int), ()), ((), (1, ()))))
  else (
   (f52F N 1048576 [t0]).bind fun y4 =>
   bif (!y4.2.1) then (
    some ((([] : List Int), ()), ((), (6, ()))))
   else (
    (f53F N).bind fun y5 =>
    bif (((IntKind.i64.wrap (Int.tdiv ((List.length t0 : Nat) : Int) 2)) == (IntKind.i64.wrap (Int.tdiv ((List.length t0 : Nat) : Int) 2))) && (decide (0 ≤ (IntKind.i64.wrap (Int.tdiv ((List.length t0 : Nat) : Int) 2)))) && (decide ((IntKind.i64.wrap (Int.tdiv ((List.length t0 : Nat) : Int) 2)) * 16 ≤ 140737488355328))) then (
     (f54F N ((List.length t0 : Nat) : Int)).bind fun y6 =>
     (f35r1F N y6.2.1 t0 ((List.length t0 : Nat) : Int) y5.2.1.1 y5.2.1.2.1 (List.replicate (Int.toNat (IntKind.i64.wrap (Int.tdiv ((List.length t0 : Nat) : Int) 2))) ((0, (0, ())) : (Int × (Int × Unit))))).bind fun y7 =>
     (f56F N (y7.1.2.2.1.1, (y7.1.2.2.1.2.1, ())) y7.1.2.2.2.2.1).bind fun y8 =>
     bif ((y7.1.2.1.1 == y7.1.2.1.1) && (decide (0 ≤ y7.1.2.1.1)) && (decide (y7.1.2.1.1 * 8 ≤ 140737488355328))) then (
      (f54F N y7.1.2.1.1).bind fun y9 =>
      (f35r3F N y9.2.1 y7.1.2.1.1 y7.1.2.2.1.1 y7.1.2.2.1.2.1 y8.1.1 (List.replicate (Int.toNat y7.1.2.1.1) (0 : Int))).bind fun y10 =>
      some ((y10.1.2.2.2.2.2.1, ()), ((), (0, ()))))
     else (
      none))
    else (
     none)))
def f35e (N : Nat) : Entry := { f := 35, pre := f35p, post := f35o, F := fun x => f35F N x.2.1 }
noncomputable def f35E (N : Nat) : Env .unit := { P := Try.prog, globs := globs, funs := [f51e N, f52e N, f53e N, f54e N, f55e N, f56e N], loops := [], ranges := [f35r1R N, f35r3R N] }
theorem f35r1s (N : Nat) (g : Unit) (y_0 : Int) (y_1 : (Int × (Int × Unit))) (b0_0 : (List Int)) (b1_0 : Int) (b2_0 : Bool) (b2_1 : (Unit × Unit)) (v4 : (List (Int × (Int × Unit)))) : runRound (sT := .unit) (f35E N) f35r1p f35r1x f35r1q.ps.toList f35r1q.assign f35r1q.body (i73e N).Y g (y_0, (y_1, ())) (((b0_0, ()), ((b1_0, ()), ((b2_0, (b2_1, ())), (((), ()), (v4, ()))))), ((), ((), ((), ((), ()))))) = f35r1d N (y_0, (y_1, ())) (((b0_0, ()), ((b1_0, ()), ((b2_0, (b2_1, ())), (((), ()), (v4, ()))))), ((), ((), ((), ((), ()))))) := by
  kernel_rfl
theorem f35r1ok (N : Nat) : RangeOk (f35E N) Try.prog f35r1q.f f35r1q.ps f35r1q.assign f35r1q.body (f35r1R N) :=
  rangeOk (E := f35E N) (it := i73e N) (pre := f35r1p) (exits := f35r1x) (round := f35r1d N) (i73ok N) rfl (fun g y x => f35r1s N g y.1 y.2.1 x.1.1.1 x.1.2.1.1 x.1.2.2.1.1 x.1.2.2.1.2.1 x.1.2.2.2.2.1) (LoopsOk.none (by kernel_rfl) (by kernel_rfl)) (LoopsOk.none (by kernel_rfl) (by kernel_rfl)) (by kernel_rfl) (by kernel_rfl) (by kernel_rfl) (by kernel_rfl)
theorem f35r3s (N : Nat) (g : Unit) (y_0 : Int) (y_1 : (Int × (Int × Unit))) (b0_0 : Int) (b1_0 : Bool) (b1_1 : (Unit × Unit)) (v4 : (List (Int × (Int × Unit)))) (v5 : (List Int)) : runRound (sT := .unit) (f35E N) f35r3p f35r3x f35r3q.ps.toList f35r3q.assign f35r3q.body (i73e N).Y g (y_0, (y_1, ())) (((b0_0, ()), ((b1_0, (b1_1, ())), (((), ()), (((), ()), (v4, (v5, ())))))), ((), ((), ((), ((), ()))))) = f35r3d N (y_0, (y_1, ())) (((b0_0, ()), ((b1_0, (b1_1, ())), (((), ()), (((), ()), (v4, (v5, ())))))), ((), ((), ((), ((), ()))))) := by
  kernel_rfl
theorem f35r3ok (N : Nat) : RangeOk (f35E N) Try.prog f35r3q.f f35r3q.ps f35r3q.assign f35r3q.body (f35r3R N) :=
  rangeOk (E := f35E N) (it := i73e N) (pre := f35r3p) (exits := f35r3x) (round := f35r3d N) (i73ok N) rfl (fun g y x => f35r3s N g y.1 y.2.1 x.1.1.1 x.1.2.1.1 x.1.2.1.2.1 x.1.2.2.2.2.1 x.1.2.2.2.2.2.1) (LoopsOk.none (by kernel_rfl) (by kernel_rfl)) (LoopsOk.none (by kernel_rfl) (by kernel_rfl)) (by kernel_rfl) (by kernel_rfl) (by kernel_rfl) (by kernel_rfl)
theorem f35q (N : Nat) (t0 : (List Int)) : runFun (f35E N) f35o.ty f35o (fun _ y => y) Try.f35 f35p () ((), (t0, ())) = f35F N t0 := by
  kernel_rfl
theorem f35ok (N : Nat) : EntryOk Try.prog globs (f35e N) :=
  funOk (E := f35E N) (e := f35e N) (fn := Try.f35) (c := f35c) rfl (by kernel_rfl) (by kernel_rfl) (by kernel_rfl) (by kernel_rfl) rfl rfl (List.forall_mem_cons.2 ⟨f51ok N, (List.forall_mem_cons.2 ⟨f52ok N, (List.forall_mem_cons.2 ⟨f53ok N, (List.forall_mem_cons.2 ⟨f54ok N, (List.forall_mem_cons.2 ⟨f55ok N, (List.forall_mem_cons.2 ⟨f56ok N, (List.forall_mem_nil _)⟩)⟩)⟩)⟩)⟩)⟩) (LoopsOk.both (l := []) (r := [f35r1q, f35r3q]) (by kernel_rfl) (by kernel_rfl) (List.forall_mem_nil _) (List.forall_mem_cons.2 ⟨RangeFor.of (L := f35r1R N) (by kernel_rfl) (f35r1ok N) rfl, (List.forall_mem_cons.2 ⟨RangeFor.of (L := f35r3R N) (by kernel_rfl) (f35r3ok N) rfl, (List.forall_mem_nil _)⟩)⟩)) (by kernel_rfl) (by kernel_rfl) (by kernel_rfl) (fun x => f35q N x.2.1)

/-! f34: shawm/lap.blocks[int] -/
abbrev f34p : Pat := ⟨[], [(0, .dat (.list I)), (1, .dat (.list I)), (2, .dat (.clo 35 .unit .unit))]⟩
abbrev f34o : Pat := ⟨[.vec 3 I], [(0, .vref 0)]⟩
noncomputable def f34c : Code := (Try.f34.body).getD .skip
noncomputable def f34l0c : Code := (((loopsIn 0 f34c)[0]?).map (·.2)).getD .skip
abbrev f34l0p : Pat := ⟨[.vec 3 I], [(0, .dat (.list I)), (2, .dat (.clo 35 .unit .unit)), (7, .vref 0), (12, .dat (.list I)), (13, .dat I), (14, .dat I)]⟩
abbrev f34l0x : List (Ex × Pat) := [(.exit 0, ⟨[.vec 3 I], [(7, .vref 0)]⟩)]
def f34l0 (N : Nat) : Nat → (List Int) → (List Int) → (Unit × Unit) → (List Int) → Int → Int → Option (((List Int) × Unit) × (Unit × Unit))
  | 0, _, _, _, _, _, _ => none
  | n + 1, v0, t0, t2, t12, t13, t14 =>
    bif (decide (t14 < t13)) then (
     bif ((decide (0 ≤ t14)) && (decide (t14 < ((List.length t12 : Nat) : Int)))) then (
      bif ((true && (decide (0 ≤ (List.getD t12 (Int.toNat t14) 0)))) && ((decide ((List.getD t12 (Int.toNat t14) 0) ≤ (List.getD t12 (Int.toNat t14) 0))) && (decide ((List.getD t12 (Int.toNat t14) 0) ≤ ((List.length t0 : Nat) : Int))))) then (
       (f35F N (t0.take (Int.toNat (List.getD t12 (Int.toNat t14) 0)))).bind fun y1 =>
       bif (decide ((List.length v0 + List.length y1.1.1) * 8 ≤ 140737488355328)) then (
        bif (((decide (0 ≤ (List.getD t12 (Int.toNat t14) 0))) && (decide ((List.getD t12 (Int.toNat t14) 0) ≤ ((List.length t0 : Nat) : Int)))) && (decide (((List.length t0 : Nat) : Int) ≤ ((List.length t0 : Nat) : Int)))) then (
         (f34l0 N n (List.append v0 y1.1.1) (t0.drop (Int.toNat (List.getD t12 (Int.toNat t14) 0))) t2 t12 t13 (IntKind.i64.wrap (t14 + 1))).bind some)
        else (
         none))
       else (
        none))
      else (
       none))
     else (
      none))
    else (
     some ((v0, ()), ((), ())))
def f34l0L (N : Nat) : LoopE .unit := { blk := 0, pre := f34l0p, exits := f34l0x, wr := [0,7,9,10,11,14,15,16,17,18,19,20,21,22,23,24,25,26,27,28,29,30,31,32,33], F := fun x => f34l0 N N x.1.1 x.2.1 x.2.2.1 x.2.2.2.2.1 x.2.2.2.2.2.1 x.2.2.2.2.2.2.1 }
def f34F (N : Nat) (t0 : (List Int)) (t1 : (List Int)) (t2 : (Unit × Unit)) : Option (((List Int) × Unit) × (Unit × Unit)) :=
  (f34l0 N N ([] : List Int) t0 t2 t1 ((List.length t1 : Nat) : Int) 0).bind fun y2 =>
  some ((y2.1.1, ()), ((), ()))
def f34e (N : Nat) : Entry := { f := 34, pre := f34p, post := f34o, F := fun x => f34F N x.2.1 x.2.2.1 x.2.2.2.1 }
noncomputable def f34E (N : Nat) : Env .unit := { P := Try.prog, globs := globs, funs := [f35e N], loops := [f34l0L N], ranges := [] }
theorem f34l0s (N : Nat) (n1 : Nat) (g : Unit) (v0 : (List Int)) (t0 : (List Int)) (t2 : (Unit × Unit)) (t12 : (List Int)) (t13 : Int) (t14 : Int) : runLoop (sT := .unit) (f34E N) (sumTy f34l0x) f34l0x (fun _ y => y) f34l0c f34l0p (fun _ x => f34l0 N n1 x.1.1 x.2.1 x.2.2.1 x.2.2.2.2.1 x.2.2.2.2.2.1 x.2.2.2.2.2.2.1) g ((v0, ()), (t0, (t2, ((), (t12, (t13, (t14, ()))))))) = f34l0 N (n1 + 1) v0 t0 t2 t12 t13 t14 := by
  kernel_rfl
theorem f34l0ok (N : Nat) : LoopOk (f34E N) Try.prog f34l0c (f34l0L N) :=
  loopOk (L := f34l0L N) (f := fun n x => f34l0 N n x.1.1 x.2.1 x.2.2.1 x.2.2.2.2.1 x.2.2.2.2.2.1 x.2.2.2.2.2.2.1) (N := N) (LoopsOk.none (by kernel_rfl) (by kernel_rfl)) (by kernel_rfl) (by kernel_rfl) rfl rfl (fun _ => rfl) (fun n1 g x => f34l0s N n1 g x.1.1 x.2.1 x.2.2.1 x.2.2.2.2.1 x.2.2.2.2.2.1 x.2.2.2.2.2.2.1)
theorem f34q (N : Nat) (t0 : (List Int)) (t1 : (List Int)) (t2 : (Unit × Unit)) : runFun (f34E N) f34o.ty f34o (fun _ y => y) Try.f34 f34p () ((), (t0, (t1, (t2, ())))) = f34F N t0 t1 t2 := by
  kernel_rfl
theorem f34ok (N : Nat) : EntryOk Try.prog globs (f34e N) :=
  funOk (E := f34E N) (e := f34e N) (fn := Try.f34) (c := f34c) rfl (by kernel_rfl) (by kernel_rfl) (by kernel_rfl) (by kernel_rfl) rfl rfl (List.forall_mem_cons.2 ⟨f35ok N, (List.forall_mem_nil _)⟩) (LoopsOk.both (l := [(0, f34l0c)]) (r := []) (by kernel_rfl) (by kernel_rfl) (List.forall_mem_cons.2 ⟨LoopFor.of (L := f34l0L N) (by kernel_rfl) (f34l0ok N) (by kernel_rfl), (List.forall_mem_nil _)⟩) (List.forall_mem_nil _)) (by kernel_rfl) (by kernel_rfl) (by kernel_rfl) (fun x => f34q N x.2.1 x.2.2.1 x.2.2.2.1)

/-! f14: shawm/lap.Forward -/
abbrev f14p : Pat := ⟨[], [(0, .dat (.list I)), (1, .dat (.list I))]⟩
abbrev f14o : Pat := ⟨[.vec 3 I], [(0, .vref 0), (1, .dat I)]⟩
noncomputable def f14c : Code := (Try.f14.body).getD .skip
def f14F (N : Nat) (t0 : (List Int)) (t1 : (List Int)) : Option (((List Int) × Unit) × (Unit × (Int × Unit))) :=
  (f30F N t0 t1 65536).bind fun y1 =>
  bif (y1.2.1 != 0) then (
   some ((([] : List Int), ()), ((), (y1.2.1, ()))))
  else (
   (f31F N t0).bind fun y2 =>
   (f32v1F N y2.1.1 t1 ((), ())).bind fun y3 =>
   (f34F N y3.1.1 t1 ((), ())).bind fun y4 =>
   some ((y4.1.1, ()), ((), (0, ()))))
def f14e (N : Nat) : Entry := { f := 14, pre := f14p, post := f14o, F := fun x => f14F N x.2.1 x.2.2.1 }
noncomputable def f14E (N : Nat) : Env .unit := { P := Try.prog, globs := globs, funs := [f30e N, f31e N, f32v1e N, f34e N], loops := [], ranges := [] }
theorem f14q (N : Nat) (t0 : (List Int)) (t1 : (List Int)) : runFun (f14E N) f14o.ty f14o (fun _ y => y) Try.f14 f14p () ((), (t0, (t1, ()))) = f14F N t0 t1 := by
  kernel_rfl
theorem f14ok (N : Nat) : EntryOk Try.prog globs (f14e N) :=
  funOk (E := f14E N) (e := f14e N) (fn := Try.f14) (c := f14c) rfl (by kernel_rfl) (by kernel_rfl) (by kernel_rfl) (by kernel_rfl) rfl rfl (List.forall_mem_cons.2 ⟨f30ok N, (List.forall_mem_cons.2 ⟨f31ok N, (List.forall_mem_cons.2 ⟨f32v1ok N, (List.forall_mem_cons.2 ⟨f34ok N, (List.forall_mem_nil _)⟩)⟩)⟩)⟩) (LoopsOk.none (by kernel_rfl) (by kernel_rfl)) (by kernel_rfl) (by kernel_rfl) (by kernel_rfl) (fun x => f14q N x.2.1 x.2.2.1)

/-! f82: shawm/dct.backward -/
abbrev f82p : Pat := ⟨[], []⟩
abbrev f82o : Pat := ⟨[], [(0, .dat (.agg (.pair .bool (.pair (.clo 42 .unit .unit) .unit))))]⟩
noncomputable def f82c : Code := (Try.f82.body).getD .skip
def f82F (N : Nat)  : Option (Unit × ((Bool × ((Unit × Unit) × Unit)) × Unit)) :=
  some ((), ((true, (((), ()), ())), ()))
def f82e (N : Nat) : Entry := { f := 82, pre := f82p, post := f82o, F := fun x => f82F N  }
noncomputable def f82E (N : Nat) : Env .unit := { P := Try.prog, globs := globs, funs := [], loops := [], ranges := [] }
theorem f82q (N : Nat)  : runFun (f82E N) f82o.ty f82o (fun _ y => y) Try.f82 f82p () ((), ()) = f82F N  := by
  kernel_rfl
theorem f82ok (N : Nat) : EntryOk Try.prog globs (f82e N) :=
  funOk (E := f82E N) (e := f82e N) (fn := Try.f82) (c := f82c) rfl (by kernel_rfl) (by kernel_rfl) (by kernel_rfl) (by kernel_rfl) rfl rfl (List.forall_mem_nil _) (LoopsOk.none (by kernel_rfl) (by kernel_rfl)) (by kernel_rfl) (by kernel_rfl) (by kernel_rfl) (fun x => f82q N )

/-! f55v1: (shawm/dct.way).turned -/
abbrev f55v1p : Pat := ⟨[], [(0, .dat (.agg (.pair .bool (.pair (.clo 42 .unit .unit) .unit)))), (1, .dat (.agg (.pair I (.pair I .unit)))), (2, .dat I), (3, .dat I)]⟩
abbrev f55v1o : Pat := ⟨[], [(0, .dat (.agg (.pair I (.pair I .unit))))]⟩
noncomputable def f55v1c : Code := (Try.f55.body).getD .skip
def f55v1F (N : Nat) (t0 : (Bool × ((Unit × Unit) × Unit))) (t1 : (Int × (Int × Unit))) (t2 : Int) (t3 : Int) : Option (Unit × ((Int × (Int × Unit)) × Unit)) :=
  (f42F N t1.1 t1.2.1 t2 t3).bind fun y1 =>
  some ((), ((y1.2.1, (y1.2.2.1, ())), ()))
def f55v1e (N : Nat) : Entry := { f := 55, pre := f55v1p, post := f55v1o, F := fun x => f55v1F N x.2.1 x.2.2.1 x.2.2.2.1 x.2.2.2.2.1 }
noncomputable def f55v1E (N : Nat) : Env .unit := { P := Try.prog, globs := globs, funs := [f42e N], loops := [], ranges := [] }
theorem f55v1q (N : Nat) (t0 : (Bool × ((Unit × Unit) × Unit))) (t1 : (Int × (Int × Unit))) (t2 : Int) (t3 : Int) : runFun (f55v1E N) f55v1o.ty f55v1o (fun _ y => y) Try.f55 f55v1p () ((), (t0, (t1, (t2, (t3, ()))))) = f55v1F N t0 t1 t2 t3 := by
  kernel_rfl
theorem f55v1ok (N : Nat) : EntryOk Try.prog globs (f55v1e N) :=
  funOk (E := f55v1E N) (e := f55v1e N) (fn := Try.f55) (c := f55v1c) rfl (by kernel_rfl) (by kernel_rfl) (by kernel_rfl) (by kernel_rfl) rfl rfl (List.forall_mem_cons.2 ⟨f42ok N, (List.forall_mem_nil _)⟩) (LoopsOk.none (by kernel_rfl) (by kernel_rfl)) (by kernel_rfl) (by kernel_rfl) (by kernel_rfl) (fun x => f55v1q N x.2.1 x.2.2.1 x.2.2.2.1 x.2.2.2.2.1)

end Go.Sh.c08
