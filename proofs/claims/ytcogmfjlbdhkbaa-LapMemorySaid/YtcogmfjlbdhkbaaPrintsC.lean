/- Pure functions, entries and equations of the functions that the statements reach: printed by a program of this session. -/
import Derived.Test.YtcogmfjlbdhkbaaPrintsB
set_option linter.unusedVariables false
set_option linter.unusedSimpArgs false
set_option maxRecDepth 20000
namespace Go.Sh.c08
open Go.Proofs

/-! f84: (shawm/shawmref07.rows).unmixed -/
abbrev f84p : Pat := ⟨[], [(0, .dat (.agg (.pair I (.pair (.list (.agg (.pair I (.pair I (.pair I .unit))))) (.pair I (.pair I (.pair I .unit))))))), (1, .dat (.list I)), (2, .dat (.list I))]⟩
abbrev f84o : Pat := ⟨[.vec 3 I, .vec 3 I], [(0, .vref 0), (1, .vref 1)]⟩
noncomputable def f84c : Code := (Try.f84.body).getD .skip
noncomputable def f84l0c : Code := (((loopsIn 0 f84c)[0]?).map (·.2)).getD .skip
abbrev f84l0p : Pat := ⟨[.box [.dat I, .dat (.list (.agg (.pair I (.pair I (.pair I .unit))))), .dat I, .dat I, .dat I], .vec 3 I, .vec 3 I, .vec 3 I, .vec 3 I], [(1, .dat (.list I)), (2, .dat (.list I)), (3, .bptr 0), (8, .dat I), (9, .vref 1), (10, .vref 2), (11, .vref 3), (12, .vref 4), (46, .dat I), (47, .dat I)]⟩
abbrev f84l0x : List (Ex × Pat) := [(.exit 0, ⟨[.box [.dat I, .dat (.list (.agg (.pair I (.pair I (.pair I .unit))))), .dat I, .dat I, .dat I], .vec 3 I, .vec 3 I, .vec 3 I, .vec 3 I], [(9, .vref 1), (10, .vref 2), (11, .vref 3), (12, .vref 4)]⟩)]
def f84l0 (N : Nat) : Nat → Int → (List (Int × (Int × (Int × Unit)))) → Int → Int → Int → (List Int) → (List Int) → (List Int) → (List Int) → (List Int) → (List Int) → Int → Int → Int → Option (((Int × ((List (Int × (Int × (Int × Unit)))) × (Int × (Int × (Int × Unit))))) × ((List Int) × ((List Int) × ((List Int) × ((List Int) × Unit))))) × (Unit × (Unit × (Unit × (Unit × Unit)))))
  | 0, _, _, _, _, _, _, _, _, _, _, _, _, _, _ => none
  | n + 1, b0_0, b0_1, b0_2, b0_3, b0_4, v1, v2, v3, v4, t1, t2, t8, t46, t47 =>
    bif (decide (t47 < t46)) then (
     bif ((decide (0 ≤ t47)) && (decide (t47 < ((List.length t1 : Nat) : Int)))) then (
      bif ((decide (0 ≤ (IntKind.i64.wrap (t47 + (IntKind.i64.wrap (Int.tdiv t8 2)))))) && (decide ((IntKind.i64.wrap (t47 + (IntKind.i64.wrap (Int.tdiv t8 2)))) < ((List.length t1 : Nat) : Int)))) then (
       (f64F N (b0_2, (b0_3, (b0_4, ()))) (List.getD t1 (Int.toNat t47) 0) (IntKind.i64.wrap (0 - (List.getD t1 (Int.toNat (IntKind.i64.wrap (t47 + (IntKind.i64.wrap (Int.tdiv t8 2))))) 0)))).bind fun y1 =>
       bif ((decide (0 ≤ t47)) && (decide (t47 < ((List.length t2 : Nat) : Int)))) then (
        bif ((decide (0 ≤ (IntKind.i64.wrap (t47 + (IntKind.i64.wrap (Int.tdiv t8 2)))))) && (decide ((IntKind.i64.wrap (t47 + (IntKind.i64.wrap (Int.tdiv t8 2)))) < ((List.length t2 : Nat) : Int)))) then (
         (f64F N (b0_2, (b0_3, (b0_4, ()))) (List.getD t2 (Int.toNat t47) 0) (IntKind.i64.wrap (0 - (List.getD t2 (Int.toNat (IntKind.i64.wrap (t47 + (IntKind.i64.wrap (Int.tdiv t8 2))))) 0)))).bind fun y2 =>
         bif ((decide (0 ≤ t47)) && (decide (t47 < ((List.length v1 : Nat) : Int)))) then (
          bif ((decide (0 ≤ t47)) && (decide (t47 < ((List.length v2 : Nat) : Int)))) then (
           (f81F N (b0_0, (b0_1, (b0_2, (b0_3, (b0_4, ()))))) t47 t8).bind fun y3 =>
           (f64F N (y3.2.1.1, (y3.2.1.2.1, (y3.2.1.2.2.1, ()))) y1.2.2.1 y2.2.2.1).bind fun y4 =>
           bif ((decide (0 ≤ t47)) && (decide (t47 < ((List.length v3 : Nat) : Int)))) then (
            bif ((decide (0 ≤ t47)) && (decide (t47 < ((List.length v4 : Nat) : Int)))) then (
             (f84l0 N n b0_0 b0_1 b0_2 b0_3 b0_4 (List.set v1 (Int.toNat t47) y1.2.1) (List.set v2 (Int.toNat t47) y2.2.1) (List.set v3 (Int.toNat t47) y4.2.1) (List.set v4 (Int.toNat t47) y4.2.2.1) t1 t2 t8 t46 (IntKind.i64.wrap (t47 + 1))).bind some)
            else (
             none))
           else (
            none))
          else (
           none))
         else (
          none))
        else (
         none))
       else (
        none))
      else (
       none))
     else (
      none))
    else (
     some (((b0_0, (b0_1, (b0_2, (b0_3, (b0_4, ()))))), (v1, (v2, (v3, (v4, ()))))), ((), ((), ((), ((), ()))))))
def f84l0L (N : Nat) : LoopE .unit := { blk := 0, pre := f84l0p, exits := f84l0x, wr := [13,14,15,16,17,47,48,49,50,51,52,53,54,55,56,57,58,59,60,61,62,63,64,65,66,67,68,69,70,71,72,73,74,75,76,77,78,79,80,81,82,83,84,85,86,87,88,89,90,91,92,93,94,95,96,97,98,99,100,101,102,103,104,105,106,107,108,109,110,111,112], F := fun x => f84l0 N N x.1.1.1 x.1.1.2.1 x.1.1.2.2.1 x.1.1.2.2.2.1 x.1.1.2.2.2.2.1 x.1.2.1 x.1.2.2.1 x.1.2.2.2.1 x.1.2.2.2.2.1 x.2.1 x.2.2.1 x.2.2.2.2.1 x.2.2.2.2.2.2.2.2.2.1 x.2.2.2.2.2.2.2.2.2.2.1 }
noncomputable def f84l2c : Code := (((loopsIn 0 f84c)[1]?).map (·.2)).getD .skip
abbrev f84l2p : Pat := ⟨[.vec 3 I, .vec 3 I], [(9, .dat (.list I)), (10, .dat (.list I)), (11, .dat (.list I)), (12, .dat (.list I)), (18, .vref 0), (19, .vref 1), (132, .dat I), (133, .dat I)]⟩
abbrev f84l2x : List (Ex × Pat) := [(.exit 2, ⟨[.vec 3 I, .vec 3 I], [(18, .vref 0), (19, .vref 1)]⟩)]
def f84l2 (N : Nat) : Nat → (List Int) → (List Int) → (List Int) → (List Int) → (List Int) → (List Int) → Int → Int → Option (((List Int) × ((List Int) × Unit)) × (Unit × (Unit × Unit)))
  | 0, _, _, _, _, _, _, _, _ => none
  | n + 1, v0, v1, t9, t10, t11, t12, t132, t133 =>
    bif (decide (t133 < t132)) then (
     bif ((decide (0 ≤ t133)) && (decide (t133 < ((List.length t9 : Nat) : Int)))) then (
      bif ((decide (0 ≤ (IntKind.i64.wrap (2 * t133)))) && (decide ((IntKind.i64.wrap (2 * t133)) < ((List.length v0 : Nat) : Int)))) then (
       bif ((decide (0 ≤ t133)) && (decide (t133 < ((List.length t11 : Nat) : Int)))) then (
        bif ((decide (0 ≤ (IntKind.i64.wrap ((IntKind.i64.wrap (2 * t133)) + 1)))) && (decide ((IntKind.i64.wrap ((IntKind.i64.wrap (2 * t133)) + 1)) < ((List.length (List.set v0 (Int.toNat (IntKind.i64.wrap (2 * t133))) (List.getD t9 (Int.toNat t133) 0)) : Nat) : Int)))) then (
         bif ((decide (0 ≤ t133)) && (decide (t133 < ((List.length t10 : Nat) : Int)))) then (
          bif ((decide (0 ≤ (IntKind.i64.wrap (2 * t133)))) && (decide ((IntKind.i64.wrap (2 * t133)) < ((List.length v1 : Nat) : Int)))) then (
           bif ((decide (0 ≤ t133)) && (decide (t133 < ((List.length t12 : Nat) : Int)))) then (
            bif ((decide (0 ≤ (IntKind.i64.wrap ((IntKind.i64.wrap (2 * t133)) + 1)))) && (decide ((IntKind.i64.wrap ((IntKind.i64.wrap (2 * t133)) + 1)) < ((List.length (List.set v1 (Int.toNat (IntKind.i64.wrap (2 * t133))) (List.getD t10 (Int.toNat t133) 0)) : Nat) : Int)))) then (
             (f84l2 N n (List.set (List.set v0 (Int.toNat (IntKind.i64.wrap (2 * t133))) (List.getD t9 (Int.toNat t133) 0)) (Int.toNat (IntKind.i64.wrap ((IntKind.i64.wrap (2 * t133)) + 1))) (List.getD t11 (Int.toNat t133) 0)) (List.set (List.set v1 (Int.toNat (IntKind.i64.wrap (2 * t133))) (List.getD t10 (Int.toNat t133) 0)) (Int.toNat (IntKind.i64.wrap ((IntKind.i64.wrap (2 * t133)) + 1))) (List.getD t12 (Int.toNat t133) 0)) t9 t10 t11 t12 t132 (IntKind.i64.wrap (t133 + 1))).bind some)
            else (
             none))
           else (
            none))
          else (
           none))
         else (
          none))
        else (
         none))
       else (
        none))
      else (
       none))
     else (
      none))
    else (
     some ((v0, (v1, ())), ((), ((), ()))))
def f84l2L (N : Nat) : LoopE .unit := { blk := 2, pre := f84l2p, exits := f84l2x, wr := [20,133,134,135,136,137,138,139,140,141,142,143,144,145,146,147,148,149,150,151,152,153,154,155,156,157,158,159,160,161,162,163,164,165,166,167,168,169,170], F := fun x => f84l2 N N x.1.1 x.1.2.1 x.2.1 x.2.2.1 x.2.2.2.1 x.2.2.2.2.1 x.2.2.2.2.2.2.2.1 x.2.2.2.2.2.2.2.2.1 }
def f84F (N : Nat) : Nat → (Int × ((List (Int × (Int × (Int × Unit)))) × (Int × (Int × (Int × Unit))))) → (List Int) → (List Int) → Option (((List Int) × ((List Int) × Unit)) × (Unit × (Unit × Unit)))
  | 0, _, _, _ => none
  | n + 1, t0, t1, t2 =>
    bif (((List.length t1 : Nat) : Int) == 1) then (
     bif (true && (decide (0 < ((List.length t1 : Nat) : Int)))) then (
      bif (true && (decide (0 < ((List.length t2 : Nat) : Int)))) then (
       some (([(List.getD t1 0 0)], ([(List.getD t2 0 0)], ())), ((), ((), ()))))
      else (
       none))
     else (
      none))
    else (
     bif (((IntKind.i64.wrap (Int.tdiv ((List.length t1 : Nat) : Int) 2)) == (IntKind.i64.wrap (Int.tdiv ((List.length t1 : Nat) : Int) 2))) && (decide (0 ≤ (IntKind.i64.wrap (Int.tdiv ((List.length t1 : Nat) : Int) 2)))) && (decide ((IntKind.i64.wrap (Int.tdiv ((List.length t1 : Nat) : Int) 2)) * 8 ≤ 140737488355328))) then (
      bif (((IntKind.i64.wrap (Int.tdiv ((List.length t1 : Nat) : Int) 2)) == (IntKind.i64.wrap (Int.tdiv ((List.length t1 : Nat) : Int) 2))) && (decide (0 ≤ (IntKind.i64.wrap (Int.tdiv ((List.length t1 : Nat) : Int) 2)))) && (decide ((IntKind.i64.wrap (Int.tdiv ((List.length t1 : Nat) : Int) 2)) * 8 ≤ 140737488355328))) then (
       bif (((IntKind.i64.wrap (Int.tdiv ((List.length t1 : Nat) : Int) 2)) == (IntKind.i64.wrap (Int.tdiv ((List.length t1 : Nat) : Int) 2))) && (decide (0 ≤ (IntKind.i64.wrap (Int.tdiv ((List.length t1 : Nat) : Int) 2)))) && (decide ((IntKind.i64.wrap (Int.tdiv ((List.length t1 : Nat) : Int) 2)) * 8 ≤ 140737488355328))) then (
        bif (((IntKind.i64.wrap (Int.tdiv ((List.length t1 : Nat) : Int) 2)) == (IntKind.i64.wrap (Int.tdiv ((List.length t1 : Nat) : Int) 2))) && (decide (0 ≤ (IntKind.i64.wrap (Int.tdiv ((List.length t1 : Nat) : Int) 2)))) && (decide ((IntKind.i64.wrap (Int.tdiv ((List.length t1 : Nat) : Int) 2)) * 8 ≤ 140737488355328))) then (
         (f84l0 N N t0.1 t0.2.1 t0.2.2.1 t0.2.2.2.1 t0.2.2.2.2.1 (List.replicate (Int.toNat (IntKind.i64.wrap (Int.tdiv ((List.length t1 : Nat) : Int) 2))) (0 : Int)) (List.replicate (Int.toNat (IntKind.i64.wrap (Int.tdiv ((List.length t1 : Nat) : Int) 2))) (0 : Int)) (List.replicate (Int.toNat (IntKind.i64.wrap (Int.tdiv ((List.length t1 : Nat) : Int) 2))) (0 : Int)) (List.replicate (Int.toNat (IntKind.i64.wrap (Int.tdiv ((List.length t1 : Nat) : Int) 2))) (0 : Int)) t1 t2 ((List.length t1 : Nat) : Int) (IntKind.i64.wrap (Int.tdiv ((List.length t1 : Nat) : Int) 2)) 0).bind fun y5 =>
         (f84F N n (y5.1.1.1, (y5.1.1.2.1, (y5.1.1.2.2.1, (y5.1.1.2.2.2.1, (y5.1.1.2.2.2.2.1, ()))))) y5.1.2.1 y5.1.2.2.1).bind fun y6 =>
         (f84F N n (y5.1.1.1, (y5.1.1.2.1, (y5.1.1.2.2.1, (y5.1.1.2.2.2.1, (y5.1.1.2.2.2.2.1, ()))))) y5.1.2.2.2.1 y5.1.2.2.2.2.1).bind fun y7 =>
         bif ((((List.length t1 : Nat) : Int) == ((List.length t1 : Nat) : Int)) && (decide (0 ≤ ((List.length t1 : Nat) : Int))) && (decide (((List.length t1 : Nat) : Int) * 8 ≤ 140737488355328))) then (
          bif ((((List.length t1 : Nat) : Int) == ((List.length t1 : Nat) : Int)) && (decide (0 ≤ ((List.length t1 : Nat) : Int))) && (decide (((List.length t1 : Nat) : Int) * 8 ≤ 140737488355328))) then (
           (f84l2 N N (List.replicate (Int.toNat ((List.length t1 : Nat) : Int)) (0 : Int)) (List.replicate (Int.toNat ((List.length t1 : Nat) : Int)) (0 : Int)) y6.1.1 y6.1.2.1 y7.1.1 y7.1.2.1 (IntKind.i64.wrap (Int.tdiv ((List.length t1 : Nat) : Int) 2)) 0).bind fun y8 =>
           some ((y8.1.1, (y8.1.2.1, ())), ((), ((), ()))))
          else (
           none))
         else (
          none))
        else (
         none))
       else (
        none))
      else (
       none))
     else (
      none))
def f84e (N n : Nat) : Entry := { f := 84, pre := f84p, post := f84o, F := fun x => f84F N n x.2.1 x.2.2.1 x.2.2.2.1 }
noncomputable def f84E (N n : Nat) : Env .unit := { P := Try.prog, globs := globs, funs := [f64e N, f81e N, f84e N n], loops := [f84l0L N, f84l2L N], ranges := [] }
theorem f84l0s (N n : Nat) (n1 : Nat) (g : Unit) (b0_0 : Int) (b0_1 : (List (Int × (Int × (Int × Unit))))) (b0_2 : Int) (b0_3 : Int) (b0_4 : Int) (v1 : (List Int)) (v2 : (List Int)) (v3 : (List Int)) (v4 : (List Int)) (t1 : (List Int)) (t2 : (List Int)) (t8 : Int) (t46 : Int) (t47 : Int) : runLoop (sT := .unit) (f84E N n) (sumTy f84l0x) f84l0x (fun _ y => y) f84l0c f84l0p (fun _ x => f84l0 N n1 x.1.1.1 x.1.1.2.1 x.1.1.2.2.1 x.1.1.2.2.2.1 x.1.1.2.2.2.2.1 x.1.2.1 x.1.2.2.1 x.1.2.2.2.1 x.1.2.2.2.2.1 x.2.1 x.2.2.1 x.2.2.2.2.1 x.2.2.2.2.2.2.2.2.2.1 x.2.2.2.2.2.2.2.2.2.2.1) g (((b0_0, (b0_1, (b0_2, (b0_3, (b0_4, ()))))), (v1, (v2, (v3, (v4, ()))))), (t1, (t2, ((), (t8, ((), ((), ((), ((), (t46, (t47, ()))))))))))) = f84l0 N (n1 + 1) b0_0 b0_1 b0_2 b0_3 b0_4 v1 v2 v3 v4 t1 t2 t8 t46 t47 := by
  kernel_rfl
theorem f84l0ok (N n : Nat) : LoopOk (f84E N n) Try.prog f84l0c (f84l0L N) :=
  loopOk (L := f84l0L N) (f := fun n x => f84l0 N n x.1.1.1 x.1.1.2.1 x.1.1.2.2.1 x.1.1.2.2.2.1 x.1.1.2.2.2.2.1 x.1.2.1 x.1.2.2.1 x.1.2.2.2.1 x.1.2.2.2.2.1 x.2.1 x.2.2.1 x.2.2.2.2.1 x.2.2.2.2.2.2.2.2.2.1 x.2.2.2.2.2.2.2.2.2.2.1) (N := N) (LoopsOk.none (by kernel_rfl) (by kernel_rfl)) (by kernel_rfl) (by kernel_rfl) rfl rfl (fun _ => rfl) (fun n1 g x => f84l0s N n n1 g x.1.1.1 x.1.1.2.1 x.1.1.2.2.1 x.1.1.2.2.2.1 x.1.1.2.2.2.2.1 x.1.2.1 x.1.2.2.1 x.1.2.2.2.1 x.1.2.2.2.2.1 x.2.1 x.2.2.1 x.2.2.2.2.1 x.2.2.2.2.2.2.2.2.2.1 x.2.2.2.2.2.2.2.2.2.2.1)
theorem f84l2s (N n : Nat) (n1 : Nat) (g : Unit) (v0 : (List Int)) (v1 : (List Int)) (t9 : (List Int)) (t10 : (List Int)) (t11 : (List Int)) (t12 : (List Int)) (t132 : Int) (t133 : Int) : runLoop (sT := .unit) (f84E N n) (sumTy f84l2x) f84l2x (fun _ y => y) f84l2c f84l2p (fun _ x => f84l2 N n1 x.1.1 x.1.2.1 x.2.1 x.2.2.1 x.2.2.2.1 x.2.2.2.2.1 x.2.2.2.2.2.2.2.1 x.2.2.2.2.2.2.2.2.1) g ((v0, (v1, ())), (t9, (t10, (t11, (t12, ((), ((), (t132, (t133, ()))))))))) = f84l2 N (n1 + 1) v0 v1 t9 t10 t11 t12 t132 t133 := by
  kernel_rfl
theorem f84l2ok (N n : Nat) : LoopOk (f84E N n) Try.prog f84l2c (f84l2L N) :=
  loopOk (L := f84l2L N) (f := fun n x => f84l2 N n x.1.1 x.1.2.1 x.2.1 x.2.2.1 x.2.2.2.1 x.2.2.2.2.1 x.2.2.2.2.2.2.2.1 x.2.2.2.2.2.2.2.2.1) (N := N) (LoopsOk.none (by kernel_rfl) (by kernel_rfl)) (by kernel_rfl) (by kernel_rfl) rfl rfl (fun _ => rfl) (fun n1 g x => f84l2s N n n1 g x.1.1 x.1.2.1 x.2.1 x.2.2.1 x.2.2.2.1 x.2.2.2.2.1 x.2.2.2.2.2.2.2.1 x.2.2.2.2.2.2.2.2.1)
theorem f84q (N n : Nat) (t0 : (Int × ((List (Int × (Int × (Int × Unit)))) × (Int × (Int × (Int × Unit)))))) (t1 : (List Int)) (t2 : (List Int)) : runFun (f84E N n) f84o.ty f84o (fun _ y => y) Try.f84 f84p () ((), (t0, (t1, (t2, ())))) = f84F N (n + 1) t0 t1 t2 := by
  kernel_rfl
theorem f84ok (N : Nat) : ∀ n, EntryOk Try.prog globs (f84e N n) := by
  intro n
  induction n with
  | zero => exact EntryOk.zero (by kernel_rfl : Try.prog.funcs[84]? = some Try.f84) (by kernel_rfl : Try.f84.body = some f84c) (by kernel_rfl) (fun _ => rfl)
  | succ n ih =>
    refine funOk (E := f84E N n) (e := f84e N (n + 1)) (fn := Try.f84) (c := f84c) rfl (by kernel_rfl) (by kernel_rfl) (by kernel_rfl) (by kernel_rfl) rfl rfl (List.forall_mem_cons.2 ⟨f64ok N, (List.forall_mem_cons.2 ⟨f81ok N, (List.forall_mem_cons.2 ⟨ih, (List.forall_mem_nil _)⟩)⟩)⟩) (LoopsOk.both (l := [(0, f84l0c), (2, f84l2c)]) (r := []) (by kernel_rfl) (by kernel_rfl) (List.forall_mem_cons.2 ⟨LoopFor.of (L := f84l0L N) (by kernel_rfl) (f84l0ok N n) (by kernel_rfl), (List.forall_mem_cons.2 ⟨LoopFor.of (L := f84l2L N) (by kernel_rfl) (f84l2ok N n) (by kernel_rfl), (List.forall_mem_nil _)⟩)⟩) (List.forall_mem_nil _)) (by kernel_rfl) (by kernel_rfl) (by kernel_rfl) (fun x => f84q N n x.2.1 x.2.2.1 x.2.2.2.1)

/-! f62: (shawm/shawmref07.Plan).Back -/
abbrev f62p : Pat := ⟨[], [(0, .dat (.agg (.pair (.list (.agg (.pair I (.pair I (.pair I .unit))))) (.pair I (.pair (.list (.agg (.pair I (.pair I (.pair I .unit))))) (.pair I (.pair I (.pair I .unit)))))))), (1, .dat (.list I))]⟩
abbrev f62o : Pat := ⟨[.vec 3 I], [(0, .vref 0)]⟩
noncomputable def f62c : Code := (Try.f62.body).getD .skip
noncomputable def f62l0c : Code := (((loopsIn 0 f62c)[0]?).map (·.2)).getD .skip
abbrev f62l0p : Pat := ⟨[.box [.dat (.list (.agg (.pair I (.pair I (.pair I .unit))))), .dat I, .dat (.list (.agg (.pair I (.pair I (.pair I .unit))))), .dat I, .dat I, .dat I], .vec 3 I, .vec 3 I], [(1, .dat (.list I)), (2, .bptr 0), (5, .dat I), (6, .vref 1), (7, .vref 2), (24, .dat I), (25, .dat I)]⟩
abbrev f62l0x : List (Ex × Pat) := [(.exit 0, ⟨[.box [.dat (.list (.agg (.pair I (.pair I (.pair I .unit))))), .dat I, .dat (.list (.agg (.pair I (.pair I (.pair I .unit))))), .dat I, .dat I, .dat I], .vec 3 I, .vec 3 I], [(6, .vref 1), (7, .vref 2)]⟩)]
def f62l0 (N : Nat) : Nat → (List (Int × (Int × (Int × Unit)))) → Int → (List (Int × (Int × (Int × Unit)))) → Int → Int → Int → (List Int) → (List Int) → (List Int) → Int → Int → Int → Option ((((List (Int × (Int × (Int × Unit)))) × (Int × ((List (Int × (Int × (Int × Unit)))) × (Int × (Int × (Int × Unit)))))) × ((List Int) × ((List Int) × Unit))) × (Unit × (Unit × Unit)))
  | 0, _, _, _, _, _, _, _, _, _, _, _, _ => none
  | n + 1, b0_0, b0_1, b0_2, b0_3, b0_4, b0_5, v1, v2, t1, t5, t24, t25 =>
    bif (decide (t25 < t24)) then (
     bif ((decide (0 ≤ t25)) && (decide (t25 < ((List.length b0_0 : Nat) : Int)))) then (
      bif ((decide (0 ≤ (IntKind.i64.wrap (2 * t25)))) && (decide ((IntKind.i64.wrap (2 * t25)) < ((List.length t1 : Nat) : Int)))) then (
       bif ((decide (0 ≤ (IntKind.i64.wrap ((IntKind.i64.wrap (t5 - 1)) - (IntKind.i64.wrap (2 * t25)))))) && (decide ((IntKind.i64.wrap ((IntKind.i64.wrap (t5 - 1)) - (IntKind.i64.wrap (2 * t25)))) < ((List.length t1 : Nat) : Int)))) then (
        (f64F N ((List.getD b0_0 (Int.toNat t25) (0, (0, (0, ())))).1, ((List.getD b0_0 (Int.toNat t25) (0, (0, (0, ())))).2.1, ((List.getD b0_0 (Int.toNat t25) (0, (0, (0, ())))).2.2.1, ()))) (List.getD t1 (Int.toNat (IntKind.i64.wrap (2 * t25))) 0) (IntKind.i64.wrap (0 - (List.getD t1 (Int.toNat (IntKind.i64.wrap ((IntKind.i64.wrap (t5 - 1)) - (IntKind.i64.wrap (2 * t25))))) 0)))).bind fun y1 =>
        bif ((decide (0 ≤ t25)) && (decide (t25 < ((List.length v1 : Nat) : Int)))) then (
         bif ((decide (0 ≤ t25)) && (decide (t25 < ((List.length v2 : Nat) : Int)))) then (
          (f62l0 N n b0_0 b0_1 b0_2 b0_3 b0_4 b0_5 (List.set v1 (Int.toNat t25) y1.2.1) (List.set v2 (Int.toNat t25) y1.2.2.1) t1 t5 t24 (IntKind.i64.wrap (t25 + 1))).bind some)
         else (
          none))
        else (
         none))
       else (
        none))
      else (
       none))
     else (
      none))
    else (
     some (((b0_0, (b0_1, (b0_2, (b0_3, (b0_4, (b0_5, ())))))), (v1, (v2, ()))), ((), ((), ()))))
def f62l0L (N : Nat) : LoopE .unit := { blk := 0, pre := f62l0p, exits := f62l0x, wr := [8,9,10,25,26,27,28,29,30,31,32,33,34,35,36,37,38,39,40,41,42,43,44,45,46,47,48,49,50,51,52,53,54,55,56,57,58,59], F := fun x => f62l0 N N x.1.1.1 x.1.1.2.1 x.1.1.2.2.1 x.1.1.2.2.2.1 x.1.1.2.2.2.2.1 x.1.1.2.2.2.2.2.1 x.1.2.1 x.1.2.2.1 x.2.1 x.2.2.2.1 x.2.2.2.2.2.2.1 x.2.2.2.2.2.2.2.1 }
noncomputable def f62l2c : Code := (((loopsIn 0 f62c)[1]?).map (·.2)).getD .skip
abbrev f62l2p : Pat := ⟨[.box [.dat (.list (.agg (.pair I (.pair I (.pair I .unit))))), .dat I, .dat (.list (.agg (.pair I (.pair I (.pair I .unit))))), .dat I, .dat I, .dat I], .vec 3 I], [(2, .bptr 0), (5, .dat I), (6, .dat (.list I)), (7, .dat (.list I)), (11, .vref 1), (71, .dat I), (72, .dat I)]⟩
abbrev f62l2x : List (Ex × Pat) := [(.exit 2, ⟨[.box [.dat (.list (.agg (.pair I (.pair I (.pair I .unit))))), .dat I, .dat (.list (.agg (.pair I (.pair I (.pair I .unit))))), .dat I, .dat I, .dat I], .vec 3 I], [(11, .vref 1)]⟩)]
def f62l2 (N : Nat) : Nat → (List (Int × (Int × (Int × Unit)))) → Int → (List (Int × (Int × (Int × Unit)))) → Int → Int → Int → (List Int) → Int → (List Int) → (List Int) → Int → Int → Option ((((List (Int × (Int × (Int × Unit)))) × (Int × ((List (Int × (Int × (Int × Unit)))) × (Int × (Int × (Int × Unit)))))) × ((List Int) × Unit)) × (Unit × Unit))
  | 0, _, _, _, _, _, _, _, _, _, _, _, _ => none
  | n + 1, b0_0, b0_1, b0_2, b0_3, b0_4, b0_5, v1, t5, t6, t7, t71, t72 =>
    bif (decide (t72 < t71)) then (
     bif ((decide (0 ≤ t72)) && (decide (t72 < ((List.length b0_0 : Nat) : Int)))) then (
      bif ((decide (0 ≤ t72)) && (decide (t72 < ((List.length t6 : Nat) : Int)))) then (
       bif ((decide (0 ≤ t72)) && (decide (t72 < ((List.length t7 : Nat) : Int)))) then (
        (f64F N ((List.getD b0_0 (Int.toNat t72) (0, (0, (0, ())))).1, ((List.getD b0_0 (Int.toNat t72) (0, (0, (0, ())))).2.1, ((List.getD b0_0 (Int.toNat t72) (0, (0, (0, ())))).2.2.1, ()))) (List.getD t6 (Int.toNat t72) 0) (List.getD t7 (Int.toNat t72) 0)).bind fun y2 =>
        bif ((decide (0 ≤ (IntKind.i64.wrap (2 * t72)))) && (decide ((IntKind.i64.wrap (2 * t72)) < ((List.length v1 : Nat) : Int)))) then (
         bif ((decide (0 ≤ (IntKind.i64.wrap ((IntKind.i64.wrap (t5 - 1)) - (IntKind.i64.wrap (2 * t72)))))) && (decide ((IntKind.i64.wrap ((IntKind.i64.wrap (t5 - 1)) - (IntKind.i64.wrap (2 * t72)))) < ((List.length (List.set v1 (Int.toNat (IntKind.i64.wrap (2 * t72))) y2.2.1) : Nat) : Int)))) then (
          (f62l2 N n b0_0 b0_1 b0_2 b0_3 b0_4 b0_5 (List.set (List.set v1 (Int.toNat (IntKind.i64.wrap (2 * t72))) y2.2.1) (Int.toNat (IntKind.i64.wrap ((IntKind.i64.wrap (t5 - 1)) - (IntKind.i64.wrap (2 * t72))))) y2.2.2.1) t5 t6 t7 t71 (IntKind.i64.wrap (t72 + 1))).bind some)
         else (
          none))
        else (
         none))
       else (
        none))
      else (
       none))
     else (
      none))
    else (
     some (((b0_0, (b0_1, (b0_2, (b0_3, (b0_4, (b0_5, ())))))), (v1, ())), ((), ())))
def f62l2L (N : Nat) : LoopE .unit := { blk := 2, pre := f62l2p, exits := f62l2x, wr := [12,13,14,72,73,74,75,76,77,78,79,80,81,82,83,84,85,86,87,88,89,90,91,92,93,94,95,96,97,98,99,100,101,102,103,104,105], F := fun x => f62l2 N N x.1.1.1 x.1.1.2.1 x.1.1.2.2.1 x.1.1.2.2.2.1 x.1.1.2.2.2.2.1 x.1.1.2.2.2.2.2.1 x.1.2.1 x.2.2.1 x.2.2.2.1 x.2.2.2.2.1 x.2.2.2.2.2.2.1 x.2.2.2.2.2.2.2.1 }
def f62F (N : Nat) (t0 : ((List (Int × (Int × (Int × Unit)))) × (Int × ((List (Int × (Int × (Int × Unit)))) × (Int × (Int × (Int × Unit))))))) (t1 : (List Int)) : Option (((List Int) × Unit) × (Unit × Unit)) :=
  bif (((IntKind.i64.wrap (Int.tdiv ((List.length t1 : Nat) : Int) 2)) == (IntKind.i64.wrap (Int.tdiv ((List.length t1 : Nat) : Int) 2))) && (decide (0 ≤ (IntKind.i64.wrap (Int.tdiv ((List.length t1 : Nat) : Int) 2)))) && (decide ((IntKind.i64.wrap (Int.tdiv ((List.length t1 : Nat) : Int) 2)) * 8 ≤ 140737488355328))) then (
   bif (((IntKind.i64.wrap (Int.tdiv ((List.length t1 : Nat) : Int) 2)) == (IntKind.i64.wrap (Int.tdiv ((List.length t1 : Nat) : Int) 2))) && (decide (0 ≤ (IntKind.i64.wrap (Int.tdiv ((List.length t1 : Nat) : Int) 2)))) && (decide ((IntKind.i64.wrap (Int.tdiv ((List.length t1 : Nat) : Int) 2)) * 8 ≤ 140737488355328))) then (
    (f62l0 N N t0.1 t0.2.1 t0.2.2.1 t0.2.2.2.1 t0.2.2.2.2.1 t0.2.2.2.2.2.1 (List.replicate (Int.toNat (IntKind.i64.wrap (Int.tdiv ((List.length t1 : Nat) : Int) 2))) (0 : Int)) (List.replicate (Int.toNat (IntKind.i64.wrap (Int.tdiv ((List.length t1 : Nat) : Int) 2))) (0 : Int)) t1 ((List.length t1 : Nat) : Int) (IntKind.i64.wrap (Int.tdiv ((List.length t1 : Nat) : Int) 2)) 0).bind fun y3 =>
    (f84F N N (y3.1.1.2.1, (y3.1.1.2.2.1, (y3.1.1.2.2.2.1, (y3.1.1.2.2.2.2.1, (y3.1.1.2.2.2.2.2.1, ()))))) y3.1.2.1 y3.1.2.2.1).bind fun y4 =>
    bif ((((List.length t1 : Nat) : Int) == ((List.length t1 : Nat) : Int)) && (decide (0 ≤ ((List.length t1 : Nat) : Int))) && (decide (((List.length t1 : Nat) : Int) * 8 ≤ 140737488355328))) then (
     (f62l2 N N y3.1.1.1 y3.1.1.2.1 y3.1.1.2.2.1 y3.1.1.2.2.2.1 y3.1.1.2.2.2.2.1 y3.1.1.2.2.2.2.2.1 (List.replicate (Int.toNat ((List.length t1 : Nat) : Int)) (0 : Int)) ((List.length t1 : Nat) : Int) y4.1.1 y4.1.2.1 (IntKind.i64.wrap (Int.tdiv ((List.length t1 : Nat) : Int) 2)) 0).bind fun y5 =>
     some ((y5.1.2.1, ()), ((), ())))
    else (
     none))
   else (
    none))
  else (
   none)
def f62e (N : Nat) : Entry := { f := 62, pre := f62p, post := f62o, F := fun x => f62F N x.2.1 x.2.2.1 }
noncomputable def f62E (N : Nat) : Env .unit := { P := Try.prog, globs := globs, funs := [f64e N, f84e N N], loops := [f62l0L N, f62l2L N], ranges := [] }
theorem f62l0s (N : Nat) (n1 : Nat) (g : Unit) (b0_0 : (List (Int × (Int × (Int × Unit))))) (b0_1 : Int) (b0_2 : (List (Int × (Int × (Int × Unit))))) (b0_3 : Int) (b0_4 : Int) (b0_5 : Int) (v1 : (List Int)) (v2 : (List Int)) (t1 : (List Int)) (t5 : Int) (t24 : Int) (t25 : Int) : runLoop (sT := .unit) (f62E N) (sumTy f62l0x) f62l0x (fun _ y => y) f62l0c f62l0p (fun _ x => f62l0 N n1 x.1.1.1 x.1.1.2.1 x.1.1.2.2.1 x.1.1.2.2.2.1 x.1.1.2.2.2.2.1 x.1.1.2.2.2.2.2.1 x.1.2.1 x.1.2.2.1 x.2.1 x.2.2.2.1 x.2.2.2.2.2.2.1 x.2.2.2.2.2.2.2.1) g (((b0_0, (b0_1, (b0_2, (b0_3, (b0_4, (b0_5, ())))))), (v1, (v2, ()))), (t1, ((), (t5, ((), ((), (t24, (t25, ())))))))) = f62l0 N (n1 + 1) b0_0 b0_1 b0_2 b0_3 b0_4 b0_5 v1 v2 t1 t5 t24 t25 := by
  kernel_rfl
theorem f62l0ok (N : Nat) : LoopOk (f62E N) Try.prog f62l0c (f62l0L N) :=
  loopOk (L := f62l0L N) (f := fun n x => f62l0 N n x.1.1.1 x.1.1.2.1 x.1.1.2.2.1 x.1.1.2.2.2.1 x.1.1.2.2.2.2.1 x.1.1.2.2.2.2.2.1 x.1.2.1 x.1.2.2.1 x.2.1 x.2.2.2.1 x.2.2.2.2.2.2.1 x.2.2.2.2.2.2.2.1) (N := N) (LoopsOk.none (by kernel_rfl) (by kernel_rfl)) (by kernel_rfl) (by kernel_rfl) rfl rfl (fun _ => rfl) (fun n1 g x => f62l0s N n1 g x.1.1.1 x.1.1.2.1 x.1.1.2.2.1 x.1.1.2.2.2.1 x.1.1.2.2.2.2.1 x.1.1.2.2.2.2.2.1 x.1.2.1 x.1.2.2.1 x.2.1 x.2.2.2.1 x.2.2.2.2.2.2.1 x.2.2.2.2.2.2.2.1)
theorem f62l2s (N : Nat) (n1 : Nat) (g : Unit) (b0_0 : (List (Int × (Int × (Int × Unit))))) (b0_1 : Int) (b0_2 : (List (Int × (Int × (Int × Unit))))) (b0_3 : Int) (b0_4 : Int) (b0_5 : Int) (v1 : (List Int)) (t5 : Int) (t6 : (List Int)) (t7 : (List Int)) (t71 : Int) (t72 : Int) : runLoop (sT := .unit) (f62E N) (sumTy f62l2x) f62l2x (fun _ y => y) f62l2c f62l2p (fun _ x => f62l2 N n1 x.1.1.1 x.1.1.2.1 x.1.1.2.2.1 x.1.1.2.2.2.1 x.1.1.2.2.2.2.1 x.1.1.2.2.2.2.2.1 x.1.2.1 x.2.2.1 x.2.2.2.1 x.2.2.2.2.1 x.2.2.2.2.2.2.1 x.2.2.2.2.2.2.2.1) g (((b0_0, (b0_1, (b0_2, (b0_3, (b0_4, (b0_5, ())))))), (v1, ())), ((), (t5, (t6, (t7, ((), (t71, (t72, ())))))))) = f62l2 N (n1 + 1) b0_0 b0_1 b0_2 b0_3 b0_4 b0_5 v1 t5 t6 t7 t71 t72 := by
  kernel_rfl
theorem f62l2ok (N : Nat) : LoopOk (f62E N) Try.prog f62l2c (f62l2L N) :=
  loopOk (L := f62l2L N) (f := fun n x => f62l2 N n x.1.1.1 x.1.1.2.1 x.1.1.2.2.1 x.1.1.2.2.2.1 x.1.1.2.2.2.2.1 x.1.1.2.2.2.2.2.1 x.1.2.1 x.2.2.1 x.2.2.2.1 x.2.2.2.2.1 x.2.2.2.2.2.2.1 x.2.2.2.2.2.2.2.1) (N := N) (LoopsOk.none (by kernel_rfl) (by kernel_rfl)) (by kernel_rfl) (by kernel_rfl) rfl rfl (fun _ => rfl) (fun n1 g x => f62l2s N n1 g x.1.1.1 x.1.1.2.1 x.1.1.2.2.1 x.1.1.2.2.2.1 x.1.1.2.2.2.2.1 x.1.1.2.2.2.2.2.1 x.1.2.1 x.2.2.1 x.2.2.2.1 x.2.2.2.2.1 x.2.2.2.2.2.2.1 x.2.2.2.2.2.2.2.1)
theorem f62q (N : Nat) (t0 : ((List (Int × (Int × (Int × Unit)))) × (Int × ((List (Int × (Int × (Int × Unit)))) × (Int × (Int × (Int × Unit))))))) (t1 : (List Int)) : runFun (f62E N) f62o.ty f62o (fun _ y => y) Try.f62 f62p () ((), (t0, (t1, ()))) = f62F N t0 t1 := by
  kernel_rfl
theorem f62ok (N : Nat) : EntryOk Try.prog globs (f62e N) :=
  funOk (E := f62E N) (e := f62e N) (fn := Try.f62) (c := f62c) rfl (by kernel_rfl) (by kernel_rfl) (by kernel_rfl) (by kernel_rfl) rfl rfl (List.forall_mem_cons.2 ⟨f64ok N, (List.forall_mem_cons.2 ⟨f84ok N N, (List.forall_mem_nil _)⟩)⟩) (LoopsOk.both (l := [(0, f62l0c), (2, f62l2c)]) (r := []) (by kernel_rfl) (by kernel_rfl) (List.forall_mem_cons.2 ⟨LoopFor.of (L := f62l0L N) (by kernel_rfl) (f62l0ok N) (by kernel_rfl), (List.forall_mem_cons.2 ⟨LoopFor.of (L := f62l2L N) (by kernel_rfl) (f62l2ok N) (by kernel_rfl), (List.forall_mem_nil _)⟩)⟩) (List.forall_mem_nil _)) (by kernel_rfl) (by kernel_rfl) (by kernel_rfl) (fun x => f62q N x.2.1 x.2.2.1)

/-! f40: shawm/shawmref08.inverse -/
abbrev f40p : Pat := ⟨[], [(0, .dat (.list I)), (1, .dat (.list I))]⟩
abbrev f40o : Pat := ⟨[.vec 3 I], [(0, .vref 0)]⟩
noncomputable def f40c : Code := (Try.f40.body).getD .skip
noncomputable def f40l0c : Code := (((loopsIn 0 f40c)[0]?).map (·.2)).getD .skip
abbrev f40l0p : Pat := ⟨[.box [.dat (.list (.agg (.pair I (.pair I (.pair I .unit))))), .dat I, .dat (.list (.agg (.pair I (.pair I (.pair I .unit))))), .dat I, .dat I, .dat I], .box [.dat (.list (.agg (.pair I (.pair I (.pair I .unit))))), .dat I, .dat (.list (.agg (.pair I (.pair I (.pair I .unit))))), .dat I, .dat I, .dat I], .vec 3 I], [(0, .dat (.list I)), (5, .bptr 0), (6, .bptr 1), (7, .vref 2), (13, .dat (.list I)), (14, .dat I), (15, .dat I)]⟩
abbrev f40l0x : List (Ex × Pat) := [(.exit 0, ⟨[.box [.dat (.list (.agg (.pair I (.pair I (.pair I .unit))))), .dat I, .dat (.list (.agg (.pair I (.pair I (.pair I .unit))))), .dat I, .dat I, .dat I], .box [.dat (.list (.agg (.pair I (.pair I (.pair I .unit))))), .dat I, .dat (.list (.agg (.pair I (.pair I (.pair I .unit))))), .dat I, .dat I, .dat I], .vec 3 I], [(7, .vref 2)]⟩)]
def f40l0 (N : Nat) : Nat → (List (Int × (Int × (Int × Unit)))) → Int → (List (Int × (Int × (Int × Unit)))) → Int → Int → Int → (List (Int × (Int × (Int × Unit)))) → Int → (List (Int × (Int × (Int × Unit)))) → Int → Int → Int → (List Int) → (List Int) → (List Int) → Int → Int → Option ((((List (Int × (Int × (Int × Unit)))) × (Int × ((List (Int × (Int × (Int × Unit)))) × (Int × (Int × (Int × Unit)))))) × (((List (Int × (Int × (Int × Unit)))) × (Int × ((List (Int × (Int × (Int × Unit)))) × (Int × (Int × (Int × Unit)))))) × ((List Int) × Unit))) × (Unit × Unit))
  | 0, _, _, _, _, _, _, _, _, _, _, _, _, _, _, _, _, _ => none
  | n + 1, b0_0, b0_1, b0_2, b0_3, b0_4, b0_5, b1_0, b1_1, b1_2, b1_3, b1_4, b1_5, v2, t0, t13, t14, t15 =>
    bif (decide (t15 < t14)) then (
     bif ((decide (0 ≤ t15)) && (decide (t15 < ((List.length t13 : Nat) : Int)))) then (
      bif (((decide (0 ≤ ((List.length v2 : Nat) : Int))) && (decide (((List.length v2 : Nat) : Int) ≤ (IntKind.i64.wrap (((List.length v2 : Nat) : Int) + (List.getD t13 (Int.toNat t15) 0)))))) && (decide ((IntKind.i64.wrap (((List.length v2 : Nat) : Int) + (List.getD t13 (Int.toNat t15) 0))) ≤ ((List.length t0 : Nat) : Int)))) then (
       bif ((List.getD t13 (Int.toNat t15) 0) == 16) then (
        (f62F N (b0_0, (b0_1, (b0_2, (b0_3, (b0_4, (b0_5, ())))))) ((t0.take (Int.toNat (IntKind.i64.wrap (((List.length v2 : Nat) : Int) + (List.getD t13 (Int.toNat t15) 0))))).drop (Int.toNat ((List.length v2 : Nat) : Int)))).bind fun y1 =>
        bif (decide ((List.length v2 + List.length y1.1.1) * 8 ≤ 140737488355328)) then (
         (f40l0 N n b0_0 b0_1 b0_2 b0_3 b0_4 b0_5 b1_0 b1_1 b1_2 b1_3 b1_4 b1_5 (List.append v2 y1.1.1) t0 t13 t14 (IntKind.i64.wrap (t15 + 1))).bind some)
        else (
         none))
       else (
        (f62F N (b1_0, (b1_1, (b1_2, (b1_3, (b1_4, (b1_5, ())))))) ((t0.take (Int.toNat (IntKind.i64.wrap (((List.length v2 : Nat) : Int) + (List.getD t13 (Int.toNat t15) 0))))).drop (Int.toNat ((List.length v2 : Nat) : Int)))).bind fun y2 =>
        bif (decide ((List.length v2 + List.length y2.1.1) * 8 ≤ 140737488355328)) then (
         (f40l0 N n b0_0 b0_1 b0_2 b0_3 b0_4 b0_5 b1_0 b1_1 b1_2 b1_3 b1_4 b1_5 (List.append v2 y2.1.1) t0 t13 t14 (IntKind.i64.wrap (t15 + 1))).bind some)
        else (
         none)))
      else (
       none))
     else (
      none))
    else (
     some (((b0_0, (b0_1, (b0_2, (b0_3, (b0_4, (b0_5, ())))))), ((b1_0, (b1_1, (b1_2, (b1_3, (b1_4, (b1_5, ())))))), (v2, ()))), ((), ())))
def f40l0L (N : Nat) : LoopE .unit := { blk := 0, pre := f40l0p, exits := f40l0x, wr := [7,9,10,15,16,17,18,19,20,21,22,23,24,25,26,27,28,29,30,31,32,33,34,35,36,37,38,39], F := fun x => f40l0 N N x.1.1.1 x.1.1.2.1 x.1.1.2.2.1 x.1.1.2.2.2.1 x.1.1.2.2.2.2.1 x.1.1.2.2.2.2.2.1 x.1.2.1.1 x.1.2.1.2.1 x.1.2.1.2.2.1 x.1.2.1.2.2.2.1 x.1.2.1.2.2.2.2.1 x.1.2.1.2.2.2.2.2.1 x.1.2.2.1 x.2.1 x.2.2.2.2.2.1 x.2.2.2.2.2.2.1 x.2.2.2.2.2.2.2.1 }
def f40F (N : Nat) (t0 : (List Int)) (t1 : (List Int)) : Option (((List Int) × Unit) × (Unit × Unit)) :=
  (f36F N 16).bind fun y3 =>
  (f36F N 128).bind fun y4 =>
  (f40l0 N N y3.2.1.1 y3.2.1.2.1 y3.2.1.2.2.1 y3.2.1.2.2.2.1 y3.2.1.2.2.2.2.1 y3.2.1.2.2.2.2.2.1 y4.2.1.1 y4.2.1.2.1 y4.2.1.2.2.1 y4.2.1.2.2.2.1 y4.2.1.2.2.2.2.1 y4.2.1.2.2.2.2.2.1 ([] : List Int) t0 t1 ((List.length t1 : Nat) : Int) 0).bind fun y5 =>
  (f41F N y5.1.2.2.1 t1 true).bind fun y6 =>
  some ((y6.1.1, ()), ((), ()))
def f40e (N : Nat) : Entry := { f := 40, pre := f40p, post := f40o, F := fun x => f40F N x.2.1 x.2.2.1 }
noncomputable def f40E (N : Nat) : Env .unit := { P := Try.prog, globs := globs, funs := [f36e N, f62e N, f41e N], loops := [f40l0L N], ranges := [] }
theorem f40l0s (N : Nat) (n1 : Nat) (g : Unit) (b0_0 : (List (Int × (Int × (Int × Unit))))) (b0_1 : Int) (b0_2 : (List (Int × (Int × (Int × Unit))))) (b0_3 : Int) (b0_4 : Int) (b0_5 : Int) (b1_0 : (List (Int × (Int × (Int × Unit))))) (b1_1 : Int) (b1_2 : (List (Int × (Int × (Int × Unit))))) (b1_3 : Int) (b1_4 : Int) (b1_5 : Int) (v2 : (List Int)) (t0 : (List Int)) (t13 : (List Int)) (t14 : Int) (t15 : Int) : runLoop (sT := .unit) (f40E N) (sumTy f40l0x) f40l0x (fun _ y => y) f40l0c f40l0p (fun _ x => f40l0 N n1 x.1.1.1 x.1.1.2.1 x.1.1.2.2.1 x.1.1.2.2.2.1 x.1.1.2.2.2.2.1 x.1.1.2.2.2.2.2.1 x.1.2.1.1 x.1.2.1.2.1 x.1.2.1.2.2.1 x.1.2.1.2.2.2.1 x.1.2.1.2.2.2.2.1 x.1.2.1.2.2.2.2.2.1 x.1.2.2.1 x.2.1 x.2.2.2.2.2.1 x.2.2.2.2.2.2.1 x.2.2.2.2.2.2.2.1) g (((b0_0, (b0_1, (b0_2, (b0_3, (b0_4, (b0_5, ())))))), ((b1_0, (b1_1, (b1_2, (b1_3, (b1_4, (b1_5, ())))))), (v2, ()))), (t0, ((), ((), ((), (t13, (t14, (t15, ())))))))) = f40l0 N (n1 + 1) b0_0 b0_1 b0_2 b0_3 b0_4 b0_5 b1_0 b1_1 b1_2 b1_3 b1_4 b1_5 v2 t0 t13 t14 t15 := by
  kernel_rfl
theorem f40l0ok (N : Nat) : LoopOk (f40E N) Try.prog f40l0c (f40l0L N) :=
  loopOk (L := f40l0L N) (f := fun n x => f40l0 N n x.1.1.1 x.1.1.2.1 x.1.1.2.2.1 x.1.1.2.2.2.1 x.1.1.2.2.2.2.1 x.1.1.2.2.2.2.2.1 x.1.2.1.1 x.1.2.1.2.1 x.1.2.1.2.2.1 x.1.2.1.2.2.2.1 x.1.2.1.2.2.2.2.1 x.1.2.1.2.2.2.2.2.1 x.1.2.2.1 x.2.1 x.2.2.2.2.2.1 x.2.2.2.2.2.2.1 x.2.2.2.2.2.2.2.1) (N := N) (LoopsOk.none (by kernel_rfl) (by kernel_rfl)) (by kernel_rfl) (by kernel_rfl) rfl rfl (fun _ => rfl) (fun n1 g x => f40l0s N n1 g x.1.1.1 x.1.1.2.1 x.1.1.2.2.1 x.1.1.2.2.2.1 x.1.1.2.2.2.2.1 x.1.1.2.2.2.2.2.1 x.1.2.1.1 x.1.2.1.2.1 x.1.2.1.2.2.1 x.1.2.1.2.2.2.1 x.1.2.1.2.2.2.2.1 x.1.2.1.2.2.2.2.2.1 x.1.2.2.1 x.2.1 x.2.2.2.2.2.1 x.2.2.2.2.2.2.1 x.2.2.2.2.2.2.2.1)
theorem f40q (N : Nat) (t0 : (List Int)) (t1 : (List Int)) : runFun (f40E N) f40o.ty f40o (fun _ y => y) Try.f40 f40p () ((), (t0, (t1, ()))) = f40F N t0 t1 := by
  kernel_rfl
theorem f40ok (N : Nat) : EntryOk Try.prog globs (f40e N) :=
  funOk (E := f40E N) (e := f40e N) (fn := Try.f40) (c := f40c) rfl (by kernel_rfl) (by kernel_rfl) (by kernel_rfl) (by kernel_rfl) rfl rfl (List.forall_mem_cons.2 ⟨f36ok N, (List.forall_mem_cons.2 ⟨f62ok N, (List.forall_mem_cons.2 ⟨f41ok N, (List.forall_mem_nil _)⟩)⟩)⟩) (LoopsOk.both (l := [(0, f40l0c)]) (r := []) (by kernel_rfl) (by kernel_rfl) (List.forall_mem_cons.2 ⟨LoopFor.of (L := f40l0L N) (by kernel_rfl) (f40l0ok N) (by kernel_rfl), (List.forall_mem_nil _)⟩) (List.forall_mem_nil _)) (by kernel_rfl) (by kernel_rfl) (by kernel_rfl) (fun x => f40q N x.2.1 x.2.2.1)

/-! f18: shawm/shawmref08.Inverse -/
abbrev f18p : Pat := ⟨[], [(0, .dat (.list I)), (1, .dat (.list I))]⟩
abbrev f18o : Pat := ⟨[.vec 3 I], [(0, .vref 0), (1, .dat I)]⟩
noncomputable def f18c : Code := (Try.f18.body).getD .skip
def f18F (N : Nat) (t0 : (List Int)) (t1 : (List Int)) : Option (((List Int) × Unit) × (Unit × (Int × Unit))) :=
  (f39F N t0 t1).bind fun y1 =>
  bif (y1.2.1 != 0) then (
   some ((([] : List Int), ()), ((), (y1.2.1, ()))))
  else (
   (f29F N 2097152 t0).bind fun y2 =>
   bif (!y2.2.1) then (
    some ((([] : List Int), ()), ((), (6, ()))))
   else (
    (f40F N t0 t1).bind fun y3 =>
    some ((y3.1.1, ()), ((), (0, ())))))
def f18e (N : Nat) : Entry := { f := 18, pre := f18p, post := f18o, F := fun x => f18F N x.2.1 x.2.2.1 }
noncomputable def f18E (N : Nat) : Env .unit := { P := Try.prog, globs := globs, funs := [f39e N, f29e N, f40e N], loops := [], ranges := [] }
theorem f18q (N : Nat) (t0 : (List Int)) (t1 : (List Int)) : runFun (f18E N) f18o.ty f18o (fun _ y => y) Try.f18 f18p () ((), (t0, (t1, ()))) = f18F N t0 t1 := by
  kernel_rfl
theorem f18ok (N : Nat) : EntryOk Try.prog globs (f18e N) :=
  funOk (E := f18E N) (e := f18e N) (fn := Try.f18) (c := f18c) rfl (by kernel_rfl) (by kernel_rfl) (by kernel_rfl) (by kernel_rfl) rfl rfl (List.forall_mem_cons.2 ⟨f39ok N, (List.forall_mem_cons.2 ⟨f29ok N, (List.forall_mem_cons.2 ⟨f40ok N, (List.forall_mem_nil _)⟩)⟩)⟩) (LoopsOk.none (by kernel_rfl) (by kernel_rfl)) (by kernel_rfl) (by kernel_rfl) (by kernel_rfl) (fun x => f18q N x.2.1 x.2.2.1)

/-! f4: shawm/shawmlaw08.LapInverse -/
abbrev f4p : Pat := ⟨[], [(0, .dat (.list I)), (1, .dat (.list I))]⟩
abbrev f4o : Pat := ⟨[], [(0, .dat .bool)]⟩
noncomputable def f4c : Code := (Try.f4.body).getD .skip
def f4F (N : Nat) (t0 : (List Int)) (t1 : (List Int)) : Option (Unit × (Bool × Unit)) :=
  (f12F N t0 t1).bind fun y1 =>
  bif y1.2.1 then (
   (f13F N).bind fun y2 =>
   some ((), (y2.2.1, ())))
  else (
   (f17F N t0 t1).bind fun y3 =>
   (f18F N t0 t1).bind fun y4 =>
   (f16F N y3.1.1 y4.1.1).bind fun y5 =>
   bif y5.2.1 then (
    bif (y3.2.2.1 == y4.2.2.1) then (
     (f13F N).bind fun y6 =>
     some ((), (y6.2.1, ())))
    else (
     some ((), (false, ()))))
   else (
    some ((), (false, ()))))
def f4e (N : Nat) : Entry := { f := 4, pre := f4p, post := f4o, F := fun x => f4F N x.2.1 x.2.2.1 }
noncomputable def f4E (N : Nat) : Env .unit := { P := Try.prog, globs := globs, funs := [f12e N, f13e N, f17e N, f18e N, f16e N], loops := [], ranges := [] }
theorem f4q (N : Nat) (t0 : (List Int)) (t1 : (List Int)) : runFun (f4E N) f4o.ty f4o (fun _ y => y) Try.f4 f4p () ((), (t0, (t1, ()))) = f4F N t0 t1 := by
  kernel_rfl
theorem f4ok (N : Nat) : EntryOk Try.prog globs (f4e N) :=
  funOk (E := f4E N) (e := f4e N) (fn := Try.f4) (c := f4c) rfl (by kernel_rfl) (by kernel_rfl) (by kernel_rfl) (by kernel_rfl) rfl rfl (List.forall_mem_cons.2 ⟨f12ok N, (List.forall_mem_cons.2 ⟨f13ok N, (List.forall_mem_cons.2 ⟨f17ok N, (List.forall_mem_cons.2 ⟨f18ok N, (List.forall_mem_cons.2 ⟨f16ok N, (List.forall_mem_nil _)⟩)⟩)⟩)⟩)⟩) (LoopsOk.none (by kernel_rfl) (by kernel_rfl)) (by kernel_rfl) (by kernel_rfl) (by kernel_rfl) (fun x => f4q N x.2.1 x.2.2.1)

/-! f22: shawm/shawmref08.Unfold -/
abbrev f22p : Pat := ⟨[], [(0, .dat (.list I)), (1, .dat (.list I))]⟩
abbrev f22o : Pat := ⟨[.vec 3 I], [(0, .vref 0), (1, .dat I)]⟩
noncomputable def f22c : Code := (Try.f22.body).getD .skip
def f22F (N : Nat) (t0 : (List Int)) (t1 : (List Int)) : Option (((List Int) × Unit) × (Unit × (Int × Unit))) :=
  (f39F N t0 t1).bind fun y1 =>
  bif (y1.2.1 != 0) then (
   some ((([] : List Int), ()), ((), (y1.2.1, ()))))
  else (
   (f29F N 33554432 t0).bind fun y2 =>
   bif (!y2.2.1) then (
    some ((([] : List Int), ()), ((), (6, ()))))
   else (
    (f41F N t0 t1 true).bind fun y3 =>
    some ((y3.1.1, ()), ((), (0, ())))))
def f22e (N : Nat) : Entry := { f := 22, pre := f22p, post := f22o, F := fun x => f22F N x.2.1 x.2.2.1 }
noncomputable def f22E (N : Nat) : Env .unit := { P := Try.prog, globs := globs, funs := [f39e N, f29e N, f41e N], loops := [], ranges := [] }
theorem f22q (N : Nat) (t0 : (List Int)) (t1 : (List Int)) : runFun (f22E N) f22o.ty f22o (fun _ y => y) Try.f22 f22p () ((), (t0, (t1, ()))) = f22F N t0 t1 := by
  kernel_rfl
theorem f22ok (N : Nat) : EntryOk Try.prog globs (f22e N) :=
  funOk (E := f22E N) (e := f22e N) (fn := Try.f22) (c := f22c) rfl (by kernel_rfl) (by kernel_rfl) (by kernel_rfl) (by kernel_rfl) rfl rfl (List.forall_mem_cons.2 ⟨f39ok N, (List.forall_mem_cons.2 ⟨f29ok N, (List.forall_mem_cons.2 ⟨f41ok N, (List.forall_mem_nil _)⟩)⟩)⟩) (LoopsOk.none (by kernel_rfl) (by kernel_rfl)) (by kernel_rfl) (by kernel_rfl) (by kernel_rfl) (fun x => f22q N x.2.1 x.2.2.1)

/-! f5: shawm/shawmlaw08.LapFolds -/
abbrev f5p : Pat := ⟨[], [(0, .dat (.list I)), (1, .dat (.list I))]⟩
abbrev f5o : Pat := ⟨[], [(0, .dat .bool)]⟩
noncomputable def f5c : Code := (Try.f5.body).getD .skip
def f5F (N : Nat) (t0 : (List Int)) (t1 : (List Int)) : Option (Unit × (Bool × Unit)) :=
  (f12F N t0 t1).bind fun y1 =>
  bif y1.2.1 then (
   (f13F N).bind fun y2 =>
   some ((), (y2.2.1, ())))
  else (
   (f19F N t0 t1).bind fun y3 =>
   (f20F N t0 t1).bind fun y4 =>
   (f21F N t0 t1).bind fun y5 =>
   (f22F N t0 t1).bind fun y6 =>
   (f16F N y3.1.1 y4.1.1).bind fun y7 =>
   bif y7.2.1 then (
    bif (y3.2.2.1 == y4.2.2.1) then (
     (f16F N y5.1.1 y6.1.1).bind fun y8 =>
     bif y8.2.1 then (
      bif (y5.2.2.1 == y6.2.2.1) then (
       (f13F N).bind fun y9 =>
       some ((), (y9.2.1, ())))
      else (
       some ((), (false, ()))))
     else (
      some ((), (false, ()))))
    else (
     some ((), (false, ()))))
   else (
    some ((), (false, ()))))
def f5e (N : Nat) : Entry := { f := 5, pre := f5p, post := f5o, F := fun x => f5F N x.2.1 x.2.2.1 }
noncomputable def f5E (N : Nat) : Env .unit := { P := Try.prog, globs := globs, funs := [f12e N, f13e N, f19e N, f20e N, f21e N, f22e N, f16e N], loops := [], ranges := [] }
theorem f5q (N : Nat) (t0 : (List Int)) (t1 : (List Int)) : runFun (f5E N) f5o.ty f5o (fun _ y => y) Try.f5 f5p () ((), (t0, (t1, ()))) = f5F N t0 t1 := by
  kernel_rfl
theorem f5ok (N : Nat) : EntryOk Try.prog globs (f5e N) :=
  funOk (E := f5E N) (e := f5e N) (fn := Try.f5) (c := f5c) rfl (by kernel_rfl) (by kernel_rfl) (by kernel_rfl) (by kernel_rfl) rfl rfl (List.forall_mem_cons.2 ⟨f12ok N, (List.forall_mem_cons.2 ⟨f13ok N, (List.forall_mem_cons.2 ⟨f19ok N, (List.forall_mem_cons.2 ⟨f20ok N, (List.forall_mem_cons.2 ⟨f21ok N, (List.forall_mem_cons.2 ⟨f22ok N, (List.forall_mem_cons.2 ⟨f16ok N, (List.forall_mem_nil _)⟩)⟩)⟩)⟩)⟩)⟩)⟩) (LoopsOk.none (by kernel_rfl) (by kernel_rfl)) (by kernel_rfl) (by kernel_rfl) (by kernel_rfl) (fun x => f5q N x.2.1 x.2.2.1)

end Go.Sh.c08

namespace Go.Sh.c08
open Go.Proofs

/-! f24: shawm/shawmref08.Some -/
abbrev f24p : Pat := ⟨[], [(0, .dat (.list I)), (1, .dat (.list I)), (2, .dat I), (3, .dat I)]⟩
abbrev f24o : Pat := ⟨[], [(0, .dat (.list I)), (1, .dat I)]⟩
noncomputable def f24c : Code := (Try.f24.body).getD .skip
def f24F (N : Nat) (t0 : (List Int)) (t1 : (List Int)) (t2 : Int) (t3 : Int) : Option (Unit × ((List Int) × (Int × Unit))) :=
  (f39F N t0 t1).bind fun y1 =>
  bif (y1.2.1 != 0) then (
   some ((), (([] : (List Int)), (y1.2.1, ()))))
  else (
   bif (decide (t2 < 0)) then (
    some ((), (([] : (List Int)), (5, ()))))
   else (
    bif (decide (t3 < t2)) then (
     some ((), (([] : (List Int)), (5, ()))))
    else (
     bif (decide (((List.length t1 : Nat) : Int) < t3)) then (
      some ((), (([] : (List Int)), (5, ()))))
     else (
      bif ((true && (decide (0 ≤ (if 0 > (IntKind.i64.wrap (t2 - 1)) then 0 else (IntKind.i64.wrap (t2 - 1)))))) && (decide ((if 0 > (IntKind.i64.wrap (t2 - 1)) then 0 else (IntKind.i64.wrap (t2 - 1))) ≤ ((List.length t1 : Nat) : Int)))) then (
       (f28F N (t1.take (Int.toNat (if 0 > (IntKind.i64.wrap (t2 - 1)) then 0 else (IntKind.i64.wrap (t2 - 1)))))).bind fun y2 =>
       bif ((true && (decide (0 ≤ (if ((List.length t1 : Nat) : Int) < (IntKind.i64.wrap (t3 + 1)) then ((List.length t1 : Nat) : Int) else (IntKind.i64.wrap (t3 + 1)))))) && (decide ((if ((List.length t1 : Nat) : Int) < (IntKind.i64.wrap (t3 + 1)) then ((List.length t1 : Nat) : Int) else (IntKind.i64.wrap (t3 + 1))) ≤ ((List.length t1 : Nat) : Int)))) then (
        (f28F N (t1.take (Int.toNat (if ((List.length t1 : Nat) : Int) < (IntKind.i64.wrap (t3 + 1)) then ((List.length t1 : Nat) : Int) else (IntKind.i64.wrap (t3 + 1)))))).bind fun y3 =>
        bif (((decide (0 ≤ y2.2.1)) && (decide (y2.2.1 ≤ y3.2.1))) && (decide (y3.2.1 ≤ ((List.length t0 : Nat) : Int)))) then (
         (f29F N 2097152 ((t0.take (Int.toNat y3.2.1)).drop (Int.toNat y2.2.1))).bind fun y4 =>
         bif (!y4.2.1) then (
          some ((), (([] : (List Int)), (6, ()))))
         else (
          bif ((((List.length t0 : Nat) : Int) == ((List.length t0 : Nat) : Int)) && (decide (0 ≤ ((List.length t0 : Nat) : Int))) && (decide (((List.length t0 : Nat) : Int) * 8 ≤ 140737488355328))) then (
           bif ((((decide (0 ≤ y2.2.1)) && (decide (y2.2.1 ≤ y3.2.1))) && (decide (y3.2.1 ≤ ((List.length (List.replicate (Int.toNat ((List.length t0 : Nat) : Int)) (0 : Int)) : Nat) : Int)))) && true) then (
            bif (((decide (0 ≤ y2.2.1)) && (decide (y2.2.1 ≤ y3.2.1))) && (decide (y3.2.1 ≤ ((List.length t0 : Nat) : Int)))) then (
             (f40F N (((List.replicate (Int.toNat ((List.length t0 : Nat) : Int)) (0 : Int)).take (Int.toNat y2.2.1)) ++ (((t0.take (Int.toNat y3.2.1)).drop (Int.toNat y2.2.1)).take (min (List.length ((t0.take (Int.toNat y3.2.1)).drop (Int.toNat y2.2.1))) ((Int.toNat y3.2.1) - (Int.toNat y2.2.1)))) ++ ((List.replicate (Int.toNat ((List.length t0 : Nat) : Int)) (0 : Int)).drop ((Int.toNat y2.2.1) + (min (List.length ((t0.take (Int.toNat y3.2.1)).drop (Int.toNat y2.2.1))) ((Int.toNat y3.2.1) - (Int.toNat y2.2.1)))))) t1).bind fun y5 =>
             bif ((true && (decide (0 ≤ t2))) && (decide (t2 ≤ ((List.length t1 : Nat) : Int)))) then (
              (f28F N (t1.take (Int.toNat t2))).bind fun y6 =>
              bif ((true && (decide (0 ≤ t3))) && (decide (t3 ≤ ((List.length t1 : Nat) : Int)))) then (
               (f28F N (t1.take (Int.toNat t3))).bind fun y7 =>
               bif ((((decide (0 ≤ y6.2.1)) && (decide (y6.2.1 ≤ y7.2.1))) && (decide (y7.2.1 ≤ ((List.length y5.1.1 : Nat) : Int)))) && true) then (
                some ((), ((cutAt (Int.toNat y6.2.1) ((Int.toNat y7.2.1) - (Int.toNat y6.2.1)) y5.1.1), (0, ()))))
               else (
                none))
              else (
               none))
             else (
              none))
            else (
             none))
           else (
            none))
          else (
           none)))
        else (
         none))
       else (
        none))
      else (
       none)))))
def f24e (N : Nat) : Entry := { f := 24, pre := f24p, post := f24o, F := fun x => f24F N x.2.1 x.2.2.1 x.2.2.2.1 x.2.2.2.2.1 }
noncomputable def f24E (N : Nat) : Env .unit := { P := Try.prog, globs := globs, funs := [f39e N, f28e N, f29e N, f40e N], loops := [], ranges := [] }
theorem f24q (N : Nat) (t0 : (List Int)) (t1 : (List Int)) (t2 : Int) (t3 : Int) : runFun (f24E N) f24o.ty f24o (fun _ y => y) Try.f24 f24p () ((), (t0, (t1, (t2, (t3, ()))))) = f24F N t0 t1 t2 t3 := by
  kernel_rfl
theorem f24ok (N : Nat) : EntryOk Try.prog globs (f24e N) :=
  funOk (E := f24E N) (e := f24e N) (fn := Try.f24) (c := f24c) rfl (by kernel_rfl) (by kernel_rfl) (by kernel_rfl) (by kernel_rfl) rfl rfl (List.forall_mem_cons.2 ⟨f39ok N, (List.forall_mem_cons.2 ⟨f28ok N, (List.forall_mem_cons.2 ⟨f29ok N, (List.forall_mem_cons.2 ⟨f40ok N, (List.forall_mem_nil _)⟩)⟩)⟩)⟩) (LoopsOk.none (by kernel_rfl) (by kernel_rfl)) (by kernel_rfl) (by kernel_rfl) (by kernel_rfl) (fun x => f24q N x.2.1 x.2.2.1 x.2.2.2.1 x.2.2.2.2.1)

/-! f6: shawm/shawmlaw08.LapSome -/
abbrev f6p : Pat := ⟨[], [(0, .dat (.list I)), (1, .dat (.list I)), (2, .dat (.agg (.pair I (.pair I .unit))))]⟩
abbrev f6o : Pat := ⟨[], [(0, .dat .bool)]⟩
noncomputable def f6c : Code := (Try.f6.body).getD .skip
def f6F (N : Nat) (t0 : (List Int)) (t1 : (List Int)) (t2 : (Int × (Int × Unit))) : Option (Unit × (Bool × Unit)) :=
  (f12F N t0 t1).bind fun y1 =>
  bif y1.2.1 then (
   (f13F N).bind fun y2 =>
   some ((), (y2.2.1, ())))
  else (
   (f23F N t0 t1 t2.1 t2.2.1).bind fun y3 =>
   (f24F N t0 t1 t2.1 t2.2.1).bind fun y4 =>
   (f16F N y3.1.1 y4.2.1).bind fun y5 =>
   bif y5.2.1 then (
    bif (y3.2.2.1 == y4.2.2.1) then (
     (f13F N).bind fun y6 =>
     some ((), (y6.2.1, ())))
    else (
     some ((), (false, ()))))
   else (
    some ((), (false, ()))))
def f6e (N : Nat) : Entry := { f := 6, pre := f6p, post := f6o, F := fun x => f6F N x.2.1 x.2.2.1 x.2.2.2.1 }
noncomputable def f6E (N : Nat) : Env .unit := { P := Try.prog, globs := globs, funs := [f12e N, f13e N, f23e N, f24e N, f16e N], loops := [], ranges := [] }
theorem f6q (N : Nat) (t0 : (List Int)) (t1 : (List Int)) (t2 : (Int × (Int × Unit))) : runFun (f6E N) f6o.ty f6o (fun _ y => y) Try.f6 f6p () ((), (t0, (t1, (t2, ())))) = f6F N t0 t1 t2 := by
  kernel_rfl
theorem f6ok (N : Nat) : EntryOk Try.prog globs (f6e N) :=
  funOk (E := f6E N) (e := f6e N) (fn := Try.f6) (c := f6c) rfl (by kernel_rfl) (by kernel_rfl) (by kernel_rfl) (by kernel_rfl) rfl rfl (List.forall_mem_cons.2 ⟨f12ok N, (List.forall_mem_cons.2 ⟨f13ok N, (List.forall_mem_cons.2 ⟨f23ok N, (List.forall_mem_cons.2 ⟨f24ok N, (List.forall_mem_cons.2 ⟨f16ok N, (List.forall_mem_nil _)⟩)⟩)⟩)⟩)⟩) (LoopsOk.none (by kernel_rfl) (by kernel_rfl)) (by kernel_rfl) (by kernel_rfl) (by kernel_rfl) (fun x => f6q N x.2.1 x.2.2.1 x.2.2.2.1)

/-! f26: shawm/shawmref08.Own -/
abbrev f26p : Pat := ⟨[], [(0, .dat (.list I)), (1, .dat I)]⟩
abbrev f26o : Pat := ⟨[], [(0, .dat I), (1, .dat I), (2, .dat I)]⟩
noncomputable def f26c : Code := (Try.f26.body).getD .skip
def f26F (N : Nat) (t0 : (List Int)) (t1 : Int) : Option (Unit × (Int × (Int × (Int × Unit)))) :=
  (f27F N t0).bind fun y1 =>
  bif (!y1.2.1) then (
   some ((), (0, (0, (1, ())))))
  else (
   bif (decide (t1 < 0)) then (
    some ((), (0, (0, (5, ())))))
   else (
    bif (decide (((List.length t0 : Nat) : Int) ≤ t1)) then (
     some ((), (0, (0, (5, ())))))
    else (
     bif ((true && (decide (0 ≤ t1))) && (decide (t1 ≤ ((List.length t0 : Nat) : Int)))) then (
      (f28F N (t0.take (Int.toNat t1))).bind fun y2 =>
      bif ((decide (0 ≤ t1)) && (decide (t1 < ((List.length t0 : Nat) : Int)))) then (
       bif (decide (0 < t1)) then (
        bif ((decide (0 ≤ (IntKind.i64.wrap (t1 - 1)))) && (decide ((IntKind.i64.wrap (t1 - 1)) < ((List.length t0 : Nat) : Int)))) then (
         bif ((decide (0 ≤ t1)) && (decide (t1 < ((List.length t0 : Nat) : Int)))) then (
          bif (decide ((IntKind.i64.wrap (t1 + 1)) < ((List.length t0 : Nat) : Int))) then (
           bif ((decide (0 ≤ t1)) && (decide (t1 < ((List.length t0 : Nat) : Int)))) then (
            bif ((decide (0 ≤ (IntKind.i64.wrap (t1 + 1)))) && (decide ((IntKind.i64.wrap (t1 + 1)) < ((List.length t0 : Nat) : Int)))) then (
             some ((), ((IntKind.i64.wrap (y2.2.1 + (IntKind.i64.wrap (Int.tdiv (if (List.getD t0 (Int.toNat t1) 0) < (List.getD t0 (Int.toNat (IntKind.i64.wrap (t1 - 1))) 0) then (List.getD t0 (Int.toNat t1) 0) else (List.getD t0 (Int.toNat (IntKind.i64.wrap (t1 - 1))) 0)) 2)))), ((IntKind.i64.wrap ((IntKind.i64.wrap (y2.2.1 + (List.getD t0 (Int.toNat t1) 0))) - (IntKind.i64.wrap (Int.tdiv (if (List.getD t0 (Int.toNat (IntKind.i64.wrap (t1 + 1))) 0) < (List.getD t0 (Int.toNat t1) 0) then (List.getD t0 (Int.toNat (IntKind.i64.wrap (t1 + 1))) 0) else (List.getD t0 (Int.toNat t1) 0)) 2)))), (0, ())))))
            else (
             none))
           else (
            none))
          else (
           some ((), ((IntKind.i64.wrap (y2.2.1 + (IntKind.i64.wrap (Int.tdiv (if (List.getD t0 (Int.toNat t1) 0) < (List.getD t0 (Int.toNat (IntKind.i64.wrap (t1 - 1))) 0) then (List.getD t0 (Int.toNat t1) 0) else (List.getD t0 (Int.toNat (IntKind.i64.wrap (t1 - 1))) 0)) 2)))), ((IntKind.i64.wrap (y2.2.1 + (List.getD t0 (Int.toNat t1) 0))), (0, ()))))))
         else (
          none))
        else (
         none))
       else (
        bif (decide ((IntKind.i64.wrap (t1 + 1)) < ((List.length t0 : Nat) : Int))) then (
         bif ((decide (0 ≤ t1)) && (decide (t1 < ((List.length t0 : Nat) : Int)))) then (
          bif ((decide (0 ≤ (IntKind.i64.wrap (t1 + 1)))) && (decide ((IntKind.i64.wrap (t1 + 1)) < ((List.length t0 : Nat) : Int)))) then (
           some ((), (y2.2.1, ((IntKind.i64.wrap ((IntKind.i64.wrap (y2.2.1 + (List.getD t0 (Int.toNat t1) 0))) - (IntKind.i64.wrap (Int.tdiv (if (List.getD t0 (Int.toNat (IntKind.i64.wrap (t1 + 1))) 0) < (List.getD t0 (Int.toNat t1) 0) then (List.getD t0 (Int.toNat (IntKind.i64.wrap (t1 + 1))) 0) else (List.getD t0 (Int.toNat t1) 0)) 2)))), (0, ())))))
          else (
           none))
         else (
          none))
        else (
         some ((), (y2.2.1, ((IntKind.i64.wrap (y2.2.1 + (List.getD t0 (Int.toNat t1) 0))), (0, ())))))))
      else (
       none))
     else (
      none))))
def f26e (N : Nat) : Entry := { f := 26, pre := f26p, post := f26o, F := fun x => f26F N x.2.1 x.2.2.1 }
noncomputable def f26E (N : Nat) : Env .unit := { P := Try.prog, globs := globs, funs := [f27e N, f28e N], loops := [], ranges := [] }
theorem f26q (N : Nat) (t0 : (List Int)) (t1 : Int) : runFun (f26E N) f26o.ty f26o (fun _ y => y) Try.f26 f26p () ((), (t0, (t1, ()))) = f26F N t0 t1 := by
  kernel_rfl
theorem f26ok (N : Nat) : EntryOk Try.prog globs (f26e N) :=
  funOk (E := f26E N) (e := f26e N) (fn := Try.f26) (c := f26c) rfl (by kernel_rfl) (by kernel_rfl) (by kernel_rfl) (by kernel_rfl) rfl rfl (List.forall_mem_cons.2 ⟨f27ok N, (List.forall_mem_cons.2 ⟨f28ok N, (List.forall_mem_nil _)⟩)⟩) (LoopsOk.none (by kernel_rfl) (by kernel_rfl)) (by kernel_rfl) (by kernel_rfl) (by kernel_rfl) (fun x => f26q N x.2.1 x.2.2.1)

/-! f7: shawm/shawmlaw08.LapOwn -/
abbrev f7p : Pat := ⟨[], [(0, .dat (.list I)), (1, .dat I)]⟩
abbrev f7o : Pat := ⟨[], [(0, .dat .bool)]⟩
noncomputable def f7c : Code := (Try.f7.body).getD .skip
def f7F (N : Nat) (t0 : (List Int)) (t1 : Int) : Option (Unit × (Bool × Unit)) :=
  bif (decide (600 < ((List.length t0 : Nat) : Int))) then (
   (f13F N).bind fun y1 =>
   some ((), (y1.2.1, ())))
  else (
   (f25F N t0 t1).bind fun y2 =>
   (f26F N t0 t1).bind fun y3 =>
   bif (y2.2.1 == y3.2.1) then (
    bif (y2.2.2.1 == y3.2.2.1) then (
     bif (y2.2.2.2.1 == y3.2.2.2.1) then (
      (f13F N).bind fun y4 =>
      some ((), (y4.2.1, ())))
     else (
      some ((), (false, ()))))
    else (
     some ((), (false, ()))))
   else (
    some ((), (false, ()))))
def f7e (N : Nat) : Entry := { f := 7, pre := f7p, post := f7o, F := fun x => f7F N x.2.1 x.2.2.1 }
noncomputable def f7E (N : Nat) : Env .unit := { P := Try.prog, globs := globs, funs := [f13e N, f25e N, f26e N], loops := [], ranges := [] }
theorem f7q (N : Nat) (t0 : (List Int)) (t1 : Int) : runFun (f7E N) f7o.ty f7o (fun _ y => y) Try.f7 f7p () ((), (t0, (t1, ()))) = f7F N t0 t1 := by
  kernel_rfl
theorem f7ok (N : Nat) : EntryOk Try.prog globs (f7e N) :=
  funOk (E := f7E N) (e := f7e N) (fn := Try.f7) (c := f7c) rfl (by kernel_rfl) (by kernel_rfl) (by kernel_rfl) (by kernel_rfl) rfl rfl (List.forall_mem_cons.2 ⟨f13ok N, (List.forall_mem_cons.2 ⟨f25ok N, (List.forall_mem_cons.2 ⟨f26ok N, (List.forall_mem_nil _)⟩)⟩)⟩) (LoopsOk.none (by kernel_rfl) (by kernel_rfl)) (by kernel_rfl) (by kernel_rfl) (by kernel_rfl) (fun x => f7q N x.2.1 x.2.2.1)

/-! f8: shawm/shawmlaw08.LapUndone -/
abbrev f8p : Pat := ⟨[], [(0, .dat (.list I)), (1, .dat (.list I))]⟩
abbrev f8o : Pat := ⟨[], [(0, .dat .bool)]⟩
noncomputable def f8c : Code := (Try.f8.body).getD .skip
def f8F (N : Nat) (t0 : (List Int)) (t1 : (List Int)) : Option (Unit × (Bool × Unit)) :=
  (f12F N t0 t1).bind fun y1 =>
  bif y1.2.1 then (
   (f13F N).bind fun y2 =>
   some ((), (y2.2.1, ())))
  else (
   (f14F N t0 t1).bind fun y3 =>
   (f19F N t0 t1).bind fun y4 =>
   bif (y3.2.2.1 != 0) then (
    bif (y3.2.2.1 == y4.2.2.1) then (
     (f13F N).bind fun y5 =>
     some ((), (y5.2.1, ())))
    else (
     some ((), (false, ()))))
   else (
    bif (y4.2.2.1 != 0) then (
     bif (y3.2.2.1 == y4.2.2.1) then (
      (f13F N).bind fun y6 =>
      some ((), (y6.2.1, ())))
     else (
      some ((), (false, ()))))
    else (
     (f17F N y3.1.1 t1).bind fun y7 =>
     (f21F N y4.1.1 t1).bind fun y8 =>
     bif (y7.2.2.1 == 0) then (
      bif (y8.2.2.1 == 0) then (
       (f16F N y7.1.1 t0).bind fun y9 =>
       bif y9.2.1 then (
        (f16F N y8.1.1 t0).bind fun y10 =>
        bif y10.2.1 then (
         (f13F N).bind fun y11 =>
         some ((), (y11.2.1, ())))
        else (
         some ((), (false, ()))))
       else (
        some ((), (false, ()))))
      else (
       some ((), (false, ()))))
     else (
      some ((), (false, ()))))))
def f8e (N : Nat) : Entry := { f := 8, pre := f8p, post := f8o, F := fun x => f8F N x.2.1 x.2.2.1 }
noncomputable def f8E (N : Nat) : Env .unit := { P := Try.prog, globs := globs, funs := [f12e N, f13e N, f14e N, f19e N, f17e N, f21e N, f16e N], loops := [], ranges := [] }
theorem f8q (N : Nat) (t0 : (List Int)) (t1 : (List Int)) : runFun (f8E N) f8o.ty f8o (fun _ y => y) Try.f8 f8p () ((), (t0, (t1, ()))) = f8F N t0 t1 := by
  kernel_rfl
theorem f8ok (N : Nat) : EntryOk Try.prog globs (f8e N) :=
  funOk (E := f8E N) (e := f8e N) (fn := Try.f8) (c := f8c) rfl (by kernel_rfl) (by kernel_rfl) (by kernel_rfl) (by kernel_rfl) rfl rfl (List.forall_mem_cons.2 ⟨f12ok N, (List.forall_mem_cons.2 ⟨f13ok N, (List.forall_mem_cons.2 ⟨f14ok N, (List.forall_mem_cons.2 ⟨f19ok N, (List.forall_mem_cons.2 ⟨f17ok N, (List.forall_mem_cons.2 ⟨f21ok N, (List.forall_mem_cons.2 ⟨f16ok N, (List.forall_mem_nil _)⟩)⟩)⟩)⟩)⟩)⟩)⟩) (LoopsOk.none (by kernel_rfl) (by kernel_rfl)) (by kernel_rfl) (by kernel_rfl) (by kernel_rfl) (fun x => f8q N x.2.1 x.2.2.1)

/-! f9: shawm/shawmlaw08.LapNear -/
abbrev f9p : Pat := ⟨[], [(0, .dat (.list I)), (1, .dat (.list I)), (2, .dat (.agg (.pair (.int .u8) (.pair (.int .u8) (.pair (.int .u8) .unit)))))]⟩
abbrev f9o : Pat := ⟨[], [(0, .dat .bool)]⟩
noncomputable def f9c : Code := (Try.f9.body).getD .skip
noncomputable def f9l0c : Code := (((loopsIn 0 f9c)[0]?).map (·.2)).getD .skip
abbrev f9l0p : Pat := ⟨[.box [.dat (.int .u8), .dat (.int .u8), .dat (.int .u8)], .vec 3 I], [(1, .dat (.list I)), (5, .bptr 0), (7, .dat I), (8, .dat I), (13, .vref 1), (112, .dat I), (113, .dat I)]⟩
abbrev f9l0x : List (Ex × Pat) := [(.exit 0, ⟨[.box [.dat (.int .u8), .dat (.int .u8), .dat (.int .u8)], .vec 3 I], [(13, .vref 1)]⟩)]
def f9l0 (N : Nat) : Nat → Int → Int → Int → (List Int) → (List Int) → Int → Int → Int → Int → Option (((Int × (Int × (Int × Unit))) × ((List Int) × Unit)) × (Unit × Unit))
  | 0, _, _, _, _, _, _, _, _, _ => none
  | n + 1, b0_0, b0_1, b0_2, v1, t1, t7, t8, t112, t113 =>
    bif (decide (t113 < t112)) then (
     bif ((true && (decide (0 ≤ (if 0 > (IntKind.i64.wrap (t7 - 1)) then 0 else (IntKind.i64.wrap (t7 - 1)))))) && (decide ((if 0 > (IntKind.i64.wrap (t7 - 1)) then 0 else (IntKind.i64.wrap (t7 - 1))) ≤ ((List.length t1 : Nat) : Int)))) then (
      (f28F N (t1.take (Int.toNat (if 0 > (IntKind.i64.wrap (t7 - 1)) then 0 else (IntKind.i64.wrap (t7 - 1)))))).bind fun y1 =>
      bif (decide (t113 < y1.2.1)) then (
       bif ((decide (0 ≤ t113)) && (decide (t113 < ((List.length v1 : Nat) : Int)))) then (
        (f9l0 N n b0_0 b0_1 b0_2 (List.set v1 (Int.toNat t113) (IntKind.i64.wrap ((IntKind.i64.wrap ((IntKind.i64.wrap b0_2) * 1000)) - 100000))) t1 t7 t8 t112 (IntKind.i64.wrap (t113 + 1))).bind some)
       else (
        none))
      else (
       bif ((true && (decide (0 ≤ (if ((List.length t1 : Nat) : Int) < (IntKind.i64.wrap (t8 + 1)) then ((List.length t1 : Nat) : Int) else (IntKind.i64.wrap (t8 + 1)))))) && (decide ((if ((List.length t1 : Nat) : Int) < (IntKind.i64.wrap (t8 + 1)) then ((List.length t1 : Nat) : Int) else (IntKind.i64.wrap (t8 + 1))) ≤ ((List.length t1 : Nat) : Int)))) then (
        (f28F N (t1.take (Int.toNat (if ((List.length t1 : Nat) : Int) < (IntKind.i64.wrap (t8 + 1)) then ((List.length t1 : Nat) : Int) else (IntKind.i64.wrap (t8 + 1)))))).bind fun y2 =>
        bif (decide (y2.2.1 ≤ t113)) then (
         bif ((decide (0 ≤ t113)) && (decide (t113 < ((List.length v1 : Nat) : Int)))) then (
          (f9l0 N n b0_0 b0_1 b0_2 (List.set v1 (Int.toNat t113) (IntKind.i64.wrap ((IntKind.i64.wrap ((IntKind.i64.wrap b0_2) * 1000)) - 100000))) t1 t7 t8 t112 (IntKind.i64.wrap (t113 + 1))).bind some)
         else (
          none))
        else (
         (f9l0 N n b0_0 b0_1 b0_2 v1 t1 t7 t8 t112 (IntKind.i64.wrap (t113 + 1))).bind some))
       else (
        none)))
     else (
      none))
    else (
     some (((b0_0, (b0_1, (b0_2, ()))), (v1, ())), ((), ())))
def f9l0L (N : Nat) : LoopE .unit := { blk := 0, pre := f9l0p, exits := f9l0x, wr := [14,113,114,115,116,117,118,119,120,121,122,123,124,125,126,127,128,129,130,131,132,133,134,135,136,137,138,139,140,141,142,143,144], F := fun x => f9l0 N N x.1.1.1 x.1.1.2.1 x.1.1.2.2.1 x.1.2.1 x.2.1 x.2.2.2.1 x.2.2.2.2.1 x.2.2.2.2.2.2.1 x.2.2.2.2.2.2.2.1 }
noncomputable def f9l2c : Code := (((loopsIn 0 f9c)[1]?).map (·.2)).getD .skip
abbrev f9l2p : Pat := ⟨[.box [.dat (.int .u8), .dat (.int .u8), .dat (.int .u8)], .vec 3 I], [(0, .dat (.list I)), (1, .dat (.list I)), (5, .bptr 0), (7, .dat I), (13, .vref 1), (186, .dat I), (187, .dat I)]⟩
abbrev f9l2x : List (Ex × Pat) := [(.exit 2, ⟨[.box [.dat (.int .u8), .dat (.int .u8), .dat (.int .u8)], .vec 3 I], [(13, .vref 1)]⟩)]
def f9l2 (N : Nat) : Nat → Int → Int → Int → (List Int) → (List Int) → (List Int) → Int → Int → Int → Option (((Int × (Int × (Int × Unit))) × ((List Int) × Unit)) × (Unit × Unit))
  | 0, _, _, _, _, _, _, _, _, _ => none
  | n + 1, b0_0, b0_1, b0_2, v1, t0, t1, t7, t186, t187 =>
    bif (decide (t187 < t186)) then (
     bif ((true && (decide (0 ≤ t7))) && (decide (t7 ≤ ((List.length t1 : Nat) : Int)))) then (
      (f28F N (t1.take (Int.toNat t7))).bind fun y3 =>
      bif (decide (t187 < y3.2.1)) then (
       bif ((decide (0 ≤ t187)) && (decide (t187 < ((List.length v1 : Nat) : Int)))) then (
        (f9l2 N n b0_0 b0_1 b0_2 (List.set v1 (Int.toNat t187) (IntKind.i64.wrap (77 - (Int.tmod (IntKind.i64.wrap ((IntKind.i64.wrap b0_2) * t187)) 3000)))) t0 t1 t7 t186 (IntKind.i64.wrap (t187 + 1))).bind some)
       else (
        none))
      else (
       bif ((true && (decide (0 ≤ (IntKind.i64.wrap (t7 + 1))))) && (decide ((IntKind.i64.wrap (t7 + 1)) ≤ ((List.length t1 : Nat) : Int)))) then (
        (f28F N (t1.take (Int.toNat (IntKind.i64.wrap (t7 + 1))))).bind fun y4 =>
        bif (decide (y4.2.1 ≤ t187)) then (
         bif ((decide (0 ≤ t187)) && (decide (t187 < ((List.length v1 : Nat) : Int)))) then (
          (f9l2 N n b0_0 b0_1 b0_2 (List.set v1 (Int.toNat t187) (IntKind.i64.wrap (77 - (Int.tmod (IntKind.i64.wrap ((IntKind.i64.wrap b0_2) * t187)) 3000)))) t0 t1 t7 t186 (IntKind.i64.wrap (t187 + 1))).bind some)
         else (
          none))
        else (
         bif ((decide (0 ≤ t187)) && (decide (t187 < ((List.length t0 : Nat) : Int)))) then (
          bif ((decide (0 ≤ t187)) && (decide (t187 < ((List.length v1 : Nat) : Int)))) then (
           (f9l2 N n b0_0 b0_1 b0_2 (List.set v1 (Int.toNat t187) (List.getD t0 (Int.toNat t187) 0)) t0 t1 t7 t186 (IntKind.i64.wrap (t187 + 1))).bind some)
          else (
           none))
         else (
          none)))
       else (
        none)))
     else (
      none))
    else (
     some (((b0_0, (b0_1, (b0_2, ()))), (v1, ())), ((), ())))
def f9l2L (N : Nat) : LoopE .unit := { blk := 2, pre := f9l2p, exits := f9l2x, wr := [20,187,188,189,190,191,192,193,194,195,196,197,198,199,200,201,202,203,204,205,206,207,208,209,210,211,212,213,214,215,216,217,218,219,220,221,222], F := fun x => f9l2 N N x.1.1.1 x.1.1.2.1 x.1.1.2.2.1 x.1.2.1 x.2.1 x.2.2.1 x.2.2.2.2.1 x.2.2.2.2.2.2.1 x.2.2.2.2.2.2.2.1 }
def f9F (N : Nat) (t0 : (List Int)) (t1 : (List Int)) (t2 : (Int × (Int × (Int × Unit)))) : Option (Unit × (Bool × Unit)) :=
  (f12F N t0 t1).bind fun y5 =>
  bif y5.2.1 then (
   (f13F N).bind fun y6 =>
   some ((), (y6.2.1, ())))
  else (
   (f27F N t1).bind fun y7 =>
   bif (!y7.2.1) then (
    (f13F N).bind fun y8 =>
    some ((), (y8.2.1, ())))
   else (
    bif (((List.length t1 : Nat) : Int) == 0) then (
     (f13F N).bind fun y9 =>
     some ((), (y9.2.1, ())))
    else (
     (f28F N t1).bind fun y10 =>
     bif (((List.length t0 : Nat) : Int) != y10.2.1) then (
      (f13F N).bind fun y11 =>
      some ((), (y11.2.1, ())))
     else (
      (f29F N 2097152 t0).bind fun y12 =>
      bif (!y12.2.1) then (
       (f13F N).bind fun y13 =>
       some ((), (y13.2.1, ())))
      else (
       bif (!(((List.length t1 : Nat) : Int) == 0)) then (
        bif (!((IntKind.i64.wrap (((List.length t1 : Nat) : Int) - (Int.tmod (IntKind.i64.wrap t2.1) ((List.length t1 : Nat) : Int)))) == 0)) then (
         (f17F N t0 t1).bind fun y14 =>
         (f23F N t0 t1 (Int.tmod (IntKind.i64.wrap t2.1) ((List.length t1 : Nat) : Int)) (IntKind.i64.wrap ((IntKind.i64.wrap ((Int.tmod (IntKind.i64.wrap t2.1) ((List.length t1 : Nat) : Int)) + 1)) + (Int.tmod (IntKind.i64.wrap t2.2.1) (IntKind.i64.wrap (((List.length t1 : Nat) : Int) - (Int.tmod (IntKind.i64.wrap t2.1) ((List.length t1 : Nat) : Int)))))))).bind fun y15 =>
         bif (y14.2.2.1 != 0) then (
          some ((), (false, ())))
         else (
          bif (y15.2.2.1 != 0) then (
           some ((), (false, ())))
          else (
           bif (((List.length y14.1.1 : Nat) : Int) != ((List.length t0 : Nat) : Int)) then (
            some ((), (false, ())))
           else (
            bif ((true && (decide (0 ≤ (Int.tmod (IntKind.i64.wrap t2.1) ((List.length t1 : Nat) : Int))))) && (decide ((Int.tmod (IntKind.i64.wrap t2.1) ((List.length t1 : Nat) : Int)) ≤ ((List.length t1 : Nat) : Int)))) then (
             (f28F N (t1.take (Int.toNat (Int.tmod (IntKind.i64.wrap t2.1) ((List.length t1 : Nat) : Int))))).bind fun y16 =>
             bif ((true && (decide (0 ≤ (IntKind.i64.wrap ((IntKind.i64.wrap ((Int.tmod (IntKind.i64.wrap t2.1) ((List.length t1 : Nat) : Int)) + 1)) + (Int.tmod (IntKind.i64.wrap t2.2.1) (IntKind.i64.wrap (((List.length t1 : Nat) : Int) - (Int.tmod (IntKind.i64.wrap t2.1) ((List.length t1 : Nat) : Int)))))))))) && (decide ((IntKind.i64.wrap ((IntKind.i64.wrap ((Int.tmod (IntKind.i64.wrap t2.1) ((List.length t1 : Nat) : Int)) + 1)) + (Int.tmod (IntKind.i64.wrap t2.2.1) (IntKind.i64.wrap (((List.length t1 : Nat) : Int) - (Int.tmod (IntKind.i64.wrap t2.1) ((List.length t1 : Nat) : Int))))))) ≤ ((List.length t1 : Nat) : Int)))) then (
              (f28F N (t1.take (Int.toNat (IntKind.i64.wrap ((IntKind.i64.wrap ((Int.tmod (IntKind.i64.wrap t2.1) ((List.length t1 : Nat) : Int)) + 1)) + (Int.tmod (IntKind.i64.wrap t2.2.1) (IntKind.i64.wrap (((List.length t1 : Nat) : Int) - (Int.tmod (IntKind.i64.wrap t2.1) ((List.length t1 : Nat) : Int)))))))))).bind fun y17 =>
              bif ((((decide (0 ≤ y16.2.1)) && (decide (y16.2.1 ≤ y17.2.1))) && (decide (y17.2.1 ≤ ((List.length y14.1.1 : Nat) : Int)))) && true) then (
               (f16F N y15.1.1 (cutAt (Int.toNat y16.2.1) ((Int.toNat y17.2.1) - (Int.toNat y16.2.1)) y14.1.1)).bind fun y18 =>
               bif (!y18.2.1) then (
                some ((), (false, ())))
               else (
                bif (decide ((List.length ([] : List Int) + List.length t0) * 8 ≤ 140737488355328)) then (
                 (f9l0 N N t2.1 t2.2.1 t2.2.2.1 (List.append ([] : List Int) t0) t1 (Int.tmod (IntKind.i64.wrap t2.1) ((List.length t1 : Nat) : Int)) (IntKind.i64.wrap ((IntKind.i64.wrap ((Int.tmod (IntKind.i64.wrap t2.1) ((List.length t1 : Nat) : Int)) + 1)) + (Int.tmod (IntKind.i64.wrap t2.2.1) (IntKind.i64.wrap (((List.length t1 : Nat) : Int) - (Int.tmod (IntKind.i64.wrap t2.1) ((List.length t1 : Nat) : Int))))))) ((List.length (List.append ([] : List Int) t0) : Nat) : Int) 0).bind fun y19 =>
                 (f23F N y19.1.2.1 t1 (Int.tmod (IntKind.i64.wrap t2.1) ((List.length t1 : Nat) : Int)) (IntKind.i64.wrap ((IntKind.i64.wrap ((Int.tmod (IntKind.i64.wrap t2.1) ((List.length t1 : Nat) : Int)) + 1)) + (Int.tmod (IntKind.i64.wrap t2.2.1) (IntKind.i64.wrap (((List.length t1 : Nat) : Int) - (Int.tmod (IntKind.i64.wrap t2.1) ((List.length t1 : Nat) : Int)))))))).bind fun y20 =>
                 bif (y20.2.2.1 != 0) then (
                  some ((), (false, ())))
                 else (
                  (f16F N y15.1.1 y20.1.1).bind fun y21 =>
                  bif (!y21.2.1) then (
                   some ((), (false, ())))
                  else (
                   (f25F N t1 (Int.tmod (IntKind.i64.wrap t2.1) ((List.length t1 : Nat) : Int))).bind fun y22 =>
                   bif (y22.2.2.2.1 != 0) then (
                    some ((), (false, ())))
                   else (
                    bif (decide (y22.2.1 < 0)) then (
                     some ((), (false, ())))
                    else (
                     bif (decide (y22.2.2.1 < y22.2.1)) then (
                      some ((), (false, ())))
                     else (
                      bif (decide (((List.length t0 : Nat) : Int) < y22.2.2.1)) then (
                       some ((), (false, ())))
                      else (
                       (f9l2 N N y19.1.1.1 y19.1.1.2.1 y19.1.1.2.2.1 y19.1.2.1 t0 t1 (Int.tmod (IntKind.i64.wrap t2.1) ((List.length t1 : Nat) : Int)) ((List.length y19.1.2.1 : Nat) : Int) 0).bind fun y23 =>
                       (f17F N y23.1.2.1 t1).bind fun y24 =>
                       bif (y24.2.2.1 == 0) then (
                        bif (((List.length y24.1.1 : Nat) : Int) == ((List.length y14.1.1 : Nat) : Int)) then (
                         bif ((((decide (0 ≤ y22.2.1)) && (decide (y22.2.1 ≤ y22.2.2.1))) && (decide (y22.2.2.1 ≤ ((List.length y24.1.1 : Nat) : Int)))) && true) then (
                          bif ((((decide (0 ≤ y22.2.1)) && (decide (y22.2.1 ≤ y22.2.2.1))) && (decide (y22.2.2.1 ≤ ((List.length y14.1.1 : Nat) : Int)))) && true) then (
                           (f16F N (cutAt (Int.toNat y22.2.1) ((Int.toNat y22.2.2.1) - (Int.toNat y22.2.1)) y24.1.1) (cutAt (Int.toNat y22.2.1) ((Int.toNat y22.2.2.1) - (Int.toNat y22.2.1)) y14.1.1)).bind fun y25 =>
                           bif y25.2.1 then (
                            (f13F N).bind fun y26 =>
                            some ((), (y26.2.1, ())))
                           else (
                            some ((), (false, ()))))
                          else (
                           none))
                         else (
                          none))
                        else (
                         some ((), (false, ()))))
                       else (
                        some ((), (false, ()))))))))))
                else (
                 none)))
              else (
               none))
             else (
              none))
            else (
             none)))))
        else (
         none))
       else (
        none))))))
def f9e (N : Nat) : Entry := { f := 9, pre := f9p, post := f9o, F := fun x => f9F N x.2.1 x.2.2.1 x.2.2.2.1 }
noncomputable def f9E (N : Nat) : Env .unit := { P := Try.prog, globs := globs, funs := [f12e N, f13e N, f27e N, f28e N, f29e N, f17e N, f23e N, f16e N, f25e N], loops := [f9l0L N, f9l2L N], ranges := [] }
theorem f9l0s (N : Nat) (n1 : Nat) (g : Unit) (b0_0 : Int) (b0_1 : Int) (b0_2 : Int) (v1 : (List Int)) (t1 : (List Int)) (t7 : Int) (t8 : Int) (t112 : Int) (t113 : Int) : runLoop (sT := .unit) (f9E N) (sumTy f9l0x) f9l0x (fun _ y => y) f9l0c f9l0p (fun _ x => f9l0 N n1 x.1.1.1 x.1.1.2.1 x.1.1.2.2.1 x.1.2.1 x.2.1 x.2.2.2.1 x.2.2.2.2.1 x.2.2.2.2.2.2.1 x.2.2.2.2.2.2.2.1) g (((b0_0, (b0_1, (b0_2, ()))), (v1, ())), (t1, ((), (t7, (t8, ((), (t112, (t113, ())))))))) = f9l0 N (n1 + 1) b0_0 b0_1 b0_2 v1 t1 t7 t8 t112 t113 := by
  kernel_rfl
theorem f9l0ok (N : Nat) : LoopOk (f9E N) Try.prog f9l0c (f9l0L N) :=
  loopOk (L := f9l0L N) (f := fun n x => f9l0 N n x.1.1.1 x.1.1.2.1 x.1.1.2.2.1 x.1.2.1 x.2.1 x.2.2.2.1 x.2.2.2.2.1 x.2.2.2.2.2.2.1 x.2.2.2.2.2.2.2.1) (N := N) (LoopsOk.none (by kernel_rfl) (by kernel_rfl)) (by kernel_rfl) (by kernel_rfl) rfl rfl (fun _ => rfl) (fun n1 g x => f9l0s N n1 g x.1.1.1 x.1.1.2.1 x.1.1.2.2.1 x.1.2.1 x.2.1 x.2.2.2.1 x.2.2.2.2.1 x.2.2.2.2.2.2.1 x.2.2.2.2.2.2.2.1)
theorem f9l2s (N : Nat) (n1 : Nat) (g : Unit) (b0_0 : Int) (b0_1 : Int) (b0_2 : Int) (v1 : (List Int)) (t0 : (List Int)) (t1 : (List Int)) (t7 : Int) (t186 : Int) (t187 : Int) : runLoop (sT := .unit) (f9E N) (sumTy f9l2x) f9l2x (fun _ y => y) f9l2c f9l2p (fun _ x => f9l2 N n1 x.1.1.1 x.1.1.2.1 x.1.1.2.2.1 x.1.2.1 x.2.1 x.2.2.1 x.2.2.2.2.1 x.2.2.2.2.2.2.1 x.2.2.2.2.2.2.2.1) g (((b0_0, (b0_1, (b0_2, ()))), (v1, ())), (t0, (t1, ((), (t7, ((), (t186, (t187, ())))))))) = f9l2 N (n1 + 1) b0_0 b0_1 b0_2 v1 t0 t1 t7 t186 t187 := by
  kernel_rfl
theorem f9l2ok (N : Nat) : LoopOk (f9E N) Try.prog f9l2c (f9l2L N) :=
  loopOk (L := f9l2L N) (f := fun n x => f9l2 N n x.1.1.1 x.1.1.2.1 x.1.1.2.2.1 x.1.2.1 x.2.1 x.2.2.1 x.2.2.2.2.1 x.2.2.2.2.2.2.1 x.2.2.2.2.2.2.2.1) (N := N) (LoopsOk.none (by kernel_rfl) (by kernel_rfl)) (by kernel_rfl) (by kernel_rfl) rfl rfl (fun _ => rfl) (fun n1 g x => f9l2s N n1 g x.1.1.1 x.1.1.2.1 x.1.1.2.2.1 x.1.2.1 x.2.1 x.2.2.1 x.2.2.2.2.1 x.2.2.2.2.2.2.1 x.2.2.2.2.2.2.2.1)
theorem f9q (N : Nat) (t0 : (List Int)) (t1 : (List Int)) (t2 : (Int × (Int × (Int × Unit)))) : runFun (f9E N) f9o.ty f9o (fun _ y => y) Try.f9 f9p () ((), (t0, (t1, (t2, ())))) = f9F N t0 t1 t2 := by
  kernel_rfl
theorem f9ok (N : Nat) : EntryOk Try.prog globs (f9e N) :=
  funOk (E := f9E N) (e := f9e N) (fn := Try.f9) (c := f9c) rfl (by kernel_rfl) (by kernel_rfl) (by kernel_rfl) (by kernel_rfl) rfl rfl (List.forall_mem_cons.2 ⟨f12ok N, (List.forall_mem_cons.2 ⟨f13ok N, (List.forall_mem_cons.2 ⟨f27ok N, (List.forall_mem_cons.2 ⟨f28ok N, (List.forall_mem_cons.2 ⟨f29ok N, (List.forall_mem_cons.2 ⟨f17ok N, (List.forall_mem_cons.2 ⟨f23ok N, (List.forall_mem_cons.2 ⟨f16ok N, (List.forall_mem_cons.2 ⟨f25ok N, (List.forall_mem_nil _)⟩)⟩)⟩)⟩)⟩)⟩)⟩)⟩)⟩) (LoopsOk.both (l := [(0, f9l0c), (2, f9l2c)]) (r := []) (by kernel_rfl) (by kernel_rfl) (List.forall_mem_cons.2 ⟨LoopFor.of (L := f9l0L N) (by kernel_rfl) (f9l0ok N) (by kernel_rfl), (List.forall_mem_cons.2 ⟨LoopFor.of (L := f9l2L N) (by kernel_rfl) (f9l2ok N) (by kernel_rfl), (List.forall_mem_nil _)⟩)⟩) (List.forall_mem_nil _)) (by kernel_rfl) (by kernel_rfl) (by kernel_rfl) (fun x => f9q N x.2.1 x.2.2.1 x.2.2.2.1)

/-! f10: shawm/shawmlaw08.LapZeros -/
abbrev f10p : Pat := ⟨[], [(0, .dat (.list I))]⟩
abbrev f10o : Pat := ⟨[], [(0, .dat .bool)]⟩
noncomputable def f10c : Code := (Try.f10.body).getD .skip
def f10F (N : Nat) (t0 : (List Int)) : Option (Unit × (Bool × Unit)) :=
  bif (decide (40 < ((List.length t0 : Nat) : Int))) then (
   (f13F N).bind fun y1 =>
   some ((), (y1.2.1, ())))
  else (
   (f27F N t0).bind fun y2 =>
   bif (!y2.2.1) then (
    (f13F N).bind fun y3 =>
    some ((), (y3.2.1, ())))
   else (
    (f28F N t0).bind fun y4 =>
    bif ((y4.2.1 == y4.2.1) && (decide (0 ≤ y4.2.1)) && (decide (y4.2.1 * 8 ≤ 140737488355328))) then (
     (f14F N (List.replicate (Int.toNat y4.2.1) (0 : Int)) t0).bind fun y5 =>
     (f17F N (List.replicate (Int.toNat y4.2.1) (0 : Int)) t0).bind fun y6 =>
     bif (y5.2.2.1 == 0) then (
      bif (y6.2.2.1 == 0) then (
       (f16F N y5.1.1 (List.replicate (Int.toNat y4.2.1) (0 : Int))).bind fun y7 =>
       bif y7.2.1 then (
        (f16F N y6.1.1 (List.replicate (Int.toNat y4.2.1) (0 : Int))).bind fun y8 =>
        bif y8.2.1 then (
         (f13F N).bind fun y9 =>
         some ((), (y9.2.1, ())))
        else (
         some ((), (false, ()))))
       else (
        some ((), (false, ()))))
      else (
       some ((), (false, ()))))
     else (
      some ((), (false, ()))))
    else (
     none)))
def f10e (N : Nat) : Entry := { f := 10, pre := f10p, post := f10o, F := fun x => f10F N x.2.1 }
noncomputable def f10E (N : Nat) : Env .unit := { P := Try.prog, globs := globs, funs := [f13e N, f27e N, f28e N, f14e N, f17e N, f16e N], loops := [], ranges := [] }
theorem f10q (N : Nat) (t0 : (List Int)) : runFun (f10E N) f10o.ty f10o (fun _ y => y) Try.f10 f10p () ((), (t0, ())) = f10F N t0 := by
  kernel_rfl
theorem f10ok (N : Nat) : EntryOk Try.prog globs (f10e N) :=
  funOk (E := f10E N) (e := f10e N) (fn := Try.f10) (c := f10c) rfl (by kernel_rfl) (by kernel_rfl) (by kernel_rfl) (by kernel_rfl) rfl rfl (List.forall_mem_cons.2 ⟨f13ok N, (List.forall_mem_cons.2 ⟨f27ok N, (List.forall_mem_cons.2 ⟨f28ok N, (List.forall_mem_cons.2 ⟨f14ok N, (List.forall_mem_cons.2 ⟨f17ok N, (List.forall_mem_cons.2 ⟨f16ok N, (List.forall_mem_nil _)⟩)⟩)⟩)⟩)⟩)⟩) (LoopsOk.none (by kernel_rfl) (by kernel_rfl)) (by kernel_rfl) (by kernel_rfl) (by kernel_rfl) (fun x => f10q N x.2.1)

/-! f11: shawm/shawmlaw08.LapMemory -/
abbrev f11p : Pat := ⟨[], [(0, .dat (.list I)), (1, .dat (.list I))]⟩
abbrev f11o : Pat := ⟨[], [(0, .dat .bool)]⟩
noncomputable def f11c : Code := (Try.f11.body).getD .skip
noncomputable def f11l0c : Code := (((loopsIn 0 f11c)[0]?).map (·.2)).getD .skip
abbrev f11l0p : Pat := ⟨[.vec 22 (.list I)], [(18, .vref 0), (81, .dat (.list (.list I))), (82, .dat I), (83, .dat I)]⟩
abbrev f11l0x : List (Ex × Pat) := [(.exit 0, ⟨[.vec 22 (.list I)], [(18, .vref 0)]⟩)]
def f11l0 (N : Nat) : Nat → (List (List Int)) → (List (List Int)) → Int → Int → Option (((List (List Int)) × Unit) × (Unit × Unit))
  | 0, _, _, _, _ => none
  | n + 1, v0, t81, t82, t83 =>
    bif (decide (t83 < t82)) then (
     bif ((decide (0 ≤ t83)) && (decide (t83 < ((List.length t81 : Nat) : Int)))) then (
      bif (decide ((List.length ([] : List Int) + List.length (List.getD t81 (Int.toNat t83) ([] : (List Int)))) * 8 ≤ 140737488355328)) then (
       bif (decide ((List.length v0 + List.length [(List.append ([] : List Int) (List.getD t81 (Int.toNat t83) ([] : (List Int))))]) * 24 ≤ 140737488355328)) then (
        (f11l0 N n (List.append v0 [(List.append ([] : List Int) (List.getD t81 (Int.toNat t83) ([] : (List Int))))]) t81 t82 (IntKind.i64.wrap (t83 + 1))).bind some)
       else (
        none))
      else (
       none))
     else (
      none))
    else (
     some ((v0, ()), ((), ())))
def f11l0L (N : Nat) : LoopE .unit := { blk := 0, pre := f11l0p, exits := f11l0x, wr := [18,20,83,84,85,86,87,88,89,90,91,92,93], F := fun x => f11l0 N N x.1.1 x.2.2.1 x.2.2.2.1 x.2.2.2.2.1 }
noncomputable def f11l2c : Code := (((loopsIn 0 f11c)[1]?).map (·.2)).getD .skip
abbrev f11l2p : Pat := ⟨[.vec 3 I], [(5, .vref 0), (95, .dat I), (96, .dat I)]⟩
abbrev f11l2x : List (Ex × Pat) := [(.exit 2, ⟨[], []⟩)]
def f11l2 (N : Nat) : Nat → (List Int) → Int → Int → Option (Unit × Unit)
  | 0, _, _, _ => none
  | n + 1, v0, t95, t96 =>
    bif (decide (t96 < t95)) then (
     bif ((decide (0 ≤ t96)) && (decide (t96 < ((List.length v0 : Nat) : Int)))) then (
      (f11l2 N n (List.set v0 (Int.toNat t96) 9) t95 (IntKind.i64.wrap (t96 + 1))).bind some)
     else (
      none))
    else (
     some ((), ()))
def f11l2L (N : Nat) : LoopE .unit := { blk := 2, pre := f11l2p, exits := f11l2x, wr := [21,96,97,98,99,100,101,102], F := fun x => f11l2 N N x.1.1 x.2.2.1 x.2.2.2.1 }
noncomputable def f11l4c : Code := (((loopsIn 0 f11c)[2]?).map (·.2)).getD .skip
abbrev f11l4p : Pat := ⟨[], [(17, .dat (.list (.list I))), (18, .dat (.list (.list I))), (104, .dat I), (105, .dat I)]⟩
abbrev f11l4x : List (Ex × Pat) := [(.exit 4, ⟨[], []⟩), (.ret, ⟨[], [(4, .dat .bool)]⟩)]
def f11l4 (N : Nat) : Nat → (List (List Int)) → (List (List Int)) → Int → Int → Option ((Unit × Unit) ⊕ (Unit × (Bool × Unit)))
  | 0, _, _, _, _ => none
  | n + 1, t17, t18, t104, t105 =>
    bif (decide (t105 < t104)) then (
     bif ((decide (0 ≤ t105)) && (decide (t105 < ((List.length t17 : Nat) : Int)))) then (
      bif ((decide (0 ≤ t105)) && (decide (t105 < ((List.length t18 : Nat) : Int)))) then (
       (f16F N (List.getD t17 (Int.toNat t105) ([] : (List Int))) (List.getD t18 (Int.toNat t105) ([] : (List Int)))).bind fun y1 =>
       bif (!y1.2.1) then (
        some (Sum.inr ((), (false, ()))))
       else (
        (f11l4 N n t17 t18 t104 (IntKind.i64.wrap (t105 + 1))).bind some))
      else (
       none))
     else (
      none))
    else (
     some (Sum.inl ((), ())))
def f11l4L (N : Nat) : LoopE .unit := { blk := 4, pre := f11l4p, exits := f11l4x, wr := [4,22,105,106,107,108,109,110,111,112,113,114,115,116,117,118], F := fun x => f11l4 N N x.2.1 x.2.2.1 x.2.2.2.1 x.2.2.2.2.1 }
def f11F (N : Nat) (t0 : (List Int)) (t1 : (List Int)) : Option (Unit × (Bool × Unit)) :=
  (f12F N t0 t1).bind fun y2 =>
  bif y2.2.1 then (
   (f13F N).bind fun y3 =>
   some ((), (y3.2.1, ())))
  else (
   bif (decide ((List.length ([] : List Int) + List.length t0) * 8 ≤ 140737488355328)) then (
    bif (decide ((List.length ([] : List Int) + List.length t1) * 8 ≤ 140737488355328)) then (
     (f14F N (List.append ([] : List Int) t0) (List.append ([] : List Int) t1)).bind fun y4 =>
     (f17F N (List.append ([] : List Int) t0) (List.append ([] : List Int) t1)).bind fun y5 =>
     (f19F N (List.append ([] : List Int) t0) (List.append ([] : List Int) t1)).bind fun y6 =>
     (f21F N (List.append ([] : List Int) t0) (List.append ([] : List Int) t1)).bind fun y7 =>
     (f23F N (List.append ([] : List Int) t0) (List.append ([] : List Int) t1) 0 ((List.length (List.append ([] : List Int) t1) : Nat) : Int)).bind fun y8 =>
     (f16F N (List.append ([] : List Int) t0) t0).bind fun y9 =>
     bif (!y9.2.1) then (
      some ((), (false, ())))
     else (
      (f16F N (List.append ([] : List Int) t1) t1).bind fun y10 =>
      bif (!y10.2.1) then (
       some ((), (false, ())))
      else (
       (f11l0 N N ([] : List (List Int)) [y4.1.1, y5.1.1, y6.1.1, y7.1.1, y8.1.1] ((List.length [y4.1.1, y5.1.1, y6.1.1, y7.1.1, y8.1.1] : Nat) : Int) 0).bind fun y11 =>
       (f11l2 N N (List.append ([] : List Int) t0) ((List.length (List.append ([] : List Int) t0) : Nat) : Int) 0).bind fun y12 =>
       (f11l4 N N [y4.1.1, y5.1.1, y6.1.1, y7.1.1, y8.1.1] y11.1.1 ((List.length [y4.1.1, y5.1.1, y6.1.1, y7.1.1, y8.1.1] : Nat) : Int) 0).bind fun y13 =>
       Sum.elim (fun u14 =>
         (f13F N).bind fun y16 =>
         some ((), (y16.2.1, ())))
        (fun w15 =>
         some ((), (w15.2.1, ()))) y13)))
    else (
     none))
   else (
    none))
def f11e (N : Nat) : Entry := { f := 11, pre := f11p, post := f11o, F := fun x => f11F N x.2.1 x.2.2.1 }
noncomputable def f11E (N : Nat) : Env .unit := { P := Try.prog, globs := globs, funs := [f12e N, f13e N, f14e N, f17e N, f19e N, f21e N, f23e N, f16e N], loops := [f11l0L N, f11l2L N, f11l4L N], ranges := [] }
theorem f11l0s (N : Nat) (n1 : Nat) (g : Unit) (v0 : (List (List Int))) (t81 : (List (List Int))) (t82 : Int) (t83 : Int) : runLoop (sT := .unit) (f11E N) (sumTy f11l0x) f11l0x (fun _ y => y) f11l0c f11l0p (fun _ x => f11l0 N n1 x.1.1 x.2.2.1 x.2.2.2.1 x.2.2.2.2.1) g ((v0, ()), ((), (t81, (t82, (t83, ()))))) = f11l0 N (n1 + 1) v0 t81 t82 t83 := by
  kernel_rfl
theorem f11l0ok (N : Nat) : LoopOk (f11E N) Try.prog f11l0c (f11l0L N) :=
  loopOk (L := f11l0L N) (f := fun n x => f11l0 N n x.1.1 x.2.2.1 x.2.2.2.1 x.2.2.2.2.1) (N := N) (LoopsOk.none (by kernel_rfl) (by kernel_rfl)) (by kernel_rfl) (by kernel_rfl) rfl rfl (fun _ => rfl) (fun n1 g x => f11l0s N n1 g x.1.1 x.2.2.1 x.2.2.2.1 x.2.2.2.2.1)
theorem f11l2s (N : Nat) (n1 : Nat) (g : Unit) (v0 : (List Int)) (t95 : Int) (t96 : Int) : runLoop (sT := .unit) (f11E N) (sumTy f11l2x) f11l2x (fun _ y => y) f11l2c f11l2p (fun _ x => f11l2 N n1 x.1.1 x.2.2.1 x.2.2.2.1) g ((v0, ()), ((), (t95, (t96, ())))) = f11l2 N (n1 + 1) v0 t95 t96 := by
  kernel_rfl
theorem f11l2ok (N : Nat) : LoopOk (f11E N) Try.prog f11l2c (f11l2L N) :=
  loopOk (L := f11l2L N) (f := fun n x => f11l2 N n x.1.1 x.2.2.1 x.2.2.2.1) (N := N) (LoopsOk.none (by kernel_rfl) (by kernel_rfl)) (by kernel_rfl) (by kernel_rfl) rfl rfl (fun _ => rfl) (fun n1 g x => f11l2s N n1 g x.1.1 x.2.2.1 x.2.2.2.1)
theorem f11l4s (N : Nat) (n1 : Nat) (g : Unit) (t17 : (List (List Int))) (t18 : (List (List Int))) (t104 : Int) (t105 : Int) : runLoop (sT := .unit) (f11E N) (sumTy f11l4x) f11l4x (fun _ y => y) f11l4c f11l4p (fun _ x => f11l4 N n1 x.2.1 x.2.2.1 x.2.2.2.1 x.2.2.2.2.1) g ((), (t17, (t18, (t104, (t105, ()))))) = f11l4 N (n1 + 1) t17 t18 t104 t105 := by
  kernel_rfl
theorem f11l4ok (N : Nat) : LoopOk (f11E N) Try.prog f11l4c (f11l4L N) :=
  loopOk (L := f11l4L N) (f := fun n x => f11l4 N n x.2.1 x.2.2.1 x.2.2.2.1 x.2.2.2.2.1) (N := N) (LoopsOk.none (by kernel_rfl) (by kernel_rfl)) (by kernel_rfl) (by kernel_rfl) rfl rfl (fun _ => rfl) (fun n1 g x => f11l4s N n1 g x.2.1 x.2.2.1 x.2.2.2.1 x.2.2.2.2.1)
theorem f11q (N : Nat) (t0 : (List Int)) (t1 : (List Int)) : runFun (f11E N) f11o.ty f11o (fun _ y => y) Try.f11 f11p () ((), (t0, (t1, ()))) = f11F N t0 t1 := by
  kernel_rfl
theorem f11ok (N : Nat) : EntryOk Try.prog globs (f11e N) :=
  funOk (E := f11E N) (e := f11e N) (fn := Try.f11) (c := f11c) rfl (by kernel_rfl) (by kernel_rfl) (by kernel_rfl) (by kernel_rfl) rfl rfl (List.forall_mem_cons.2 ⟨f12ok N, (List.forall_mem_cons.2 ⟨f13ok N, (List.forall_mem_cons.2 ⟨f14ok N, (List.forall_mem_cons.2 ⟨f17ok N, (List.forall_mem_cons.2 ⟨f19ok N, (List.forall_mem_cons.2 ⟨f21ok N, (List.forall_mem_cons.2 ⟨f23ok N, (List.forall_mem_cons.2 ⟨f16ok N, (List.forall_mem_nil _)⟩)⟩)⟩)⟩)⟩)⟩)⟩)⟩) (LoopsOk.both (l := [(0, f11l0c), (2, f11l2c), (4, f11l4c)]) (r := []) (by kernel_rfl) (by kernel_rfl) (List.forall_mem_cons.2 ⟨LoopFor.of (L := f11l0L N) (by kernel_rfl) (f11l0ok N) (by kernel_rfl), (List.forall_mem_cons.2 ⟨LoopFor.of (L := f11l2L N) (by kernel_rfl) (f11l2ok N) (by kernel_rfl), (List.forall_mem_cons.2 ⟨LoopFor.of (L := f11l4L N) (by kernel_rfl) (f11l4ok N) (by kernel_rfl), (List.forall_mem_nil _)⟩)⟩)⟩) (List.forall_mem_nil _)) (by kernel_rfl) (by kernel_rfl) (by kernel_rfl) (fun x => f11q N x.2.1 x.2.2.1)

end Go.Sh.c08
