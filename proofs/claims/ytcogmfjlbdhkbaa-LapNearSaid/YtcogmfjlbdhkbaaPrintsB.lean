/- Pure functions, entries and equations of the functions that the statements reach: printed by a program of this session. -/
import Derived.Test.YtcogmfjlbdhkbaaPrintsA
set_option linter.unusedVariables false
set_option linter.unusedSimpArgs false
set_option maxRecDepth 20000
namespace Go.Sh.c08
open Go.Proofs

/-! f83: (shawm/dct.way).unmixed -/
abbrev f83p : Pat := ⟨[], [(0, .dat (.agg (.pair .bool (.pair (.clo 42 .unit .unit) .unit)))), (1, .dat (.list (.agg (.pair I (.pair I .unit)))))]⟩
abbrev f83o : Pat := ⟨[.vec 80 (.agg (.pair I (.pair I .unit)))], [(0, .vref 0)]⟩
noncomputable def f83c : Code := (Try.f83.body).getD .skip
noncomputable def f83l0c : Code := (((loopsIn 0 f83c)[0]?).map (·.2)).getD .skip
noncomputable def f83l2c : Code := (((loopsIn 0 f83l0c)[0]?).map (·.2)).getD .skip
abbrev f83l2p : Pat := ⟨[.box [.dat .bool, .dat (.clo 42 .unit .unit)], .vec 80 (.agg (.pair I (.pair I .unit))), .vec 80 (.agg (.pair I (.pair I .unit)))], [(1, .dat (.list (.agg (.pair I (.pair I .unit))))), (2, .bptr 0), (5, .dat I), (6, .vref 1), (7, .vref 2), (8, .dat I), (32, .dat I)]⟩
abbrev f83l2x : List (Ex × Pat) := [(.exit 2, ⟨[.box [.dat .bool, .dat (.clo 42 .unit .unit)], .vec 80 (.agg (.pair I (.pair I .unit))), .vec 80 (.agg (.pair I (.pair I .unit)))], [(6, .vref 1), (7, .vref 2)]⟩)]
def f83l2 (N : Nat) : Nat → Bool → (Unit × Unit) → (List (Int × (Int × Unit))) → (List (Int × (Int × Unit))) → (List (Int × (Int × Unit))) → Int → Int → Int → Option (((Bool × ((Unit × Unit) × Unit)) × ((List (Int × (Int × Unit))) × ((List (Int × (Int × Unit))) × Unit))) × (Unit × (Unit × Unit)))
  | 0, _, _, _, _, _, _, _, _ => none
  | n + 1, b0_0, b0_1, v1, v2, t1, t5, t8, t32 =>
    bif (decide (t32 < 2)) then (
     bif ((decide (0 ≤ t8)) && (decide (t8 < ((List.length t1 : Nat) : Int)))) then (
      bif (t32 == 1) then (
       bif ((decide (0 ≤ (IntKind.i64.wrap (t8 + (IntKind.i64.wrap (Int.tdiv t5 2)))))) && (decide ((IntKind.i64.wrap (t8 + (IntKind.i64.wrap (Int.tdiv t5 2)))) < ((List.length t1 : Nat) : Int)))) then (
        bif (t32 == 1) then (
         (f55v1F N (b0_0, (b0_1, ())) ((List.getD t1 (Int.toNat t8) (0, (0, ()))).2.1, ((IntKind.i64.wrap (0 - (List.getD t1 (Int.toNat (IntKind.i64.wrap (t8 + (IntKind.i64.wrap (Int.tdiv t5 2))))) (0, (0, ()))).2.1)), ())) (-1) 8).bind fun y1 =>
         bif ((decide (0 ≤ t8)) && (decide (t8 < ((List.length v1 : Nat) : Int)))) then (
          bif (t32 == 1) then (
           bif ((decide (0 ≤ t8)) && (decide (t8 < ((List.length v2 : Nat) : Int)))) then (
            bif (t32 == 1) then (
             (f83l2 N n b0_0 b0_1 (List.set v1 (Int.toNat t8) ((List.getD v1 (Int.toNat t8) (0, (0, ()))).1, (y1.2.1.1, ()))) (List.set v2 (Int.toNat t8) ((List.getD v2 (Int.toNat t8) (0, (0, ()))).1, (y1.2.1.2.1, ()))) t1 t5 t8 (IntKind.i64.wrap (t32 + 1))).bind some)
            else (
             bif (t32 == 0) then (
              (f83l2 N n b0_0 b0_1 (List.set v1 (Int.toNat t8) ((List.getD v1 (Int.toNat t8) (0, (0, ()))).1, (y1.2.1.1, ()))) (List.set v2 (Int.toNat t8) (y1.2.1.2.1, ((List.getD v2 (Int.toNat t8) (0, (0, ()))).2.1, ()))) t1 t5 t8 (IntKind.i64.wrap (t32 + 1))).bind some)
             else (
              none)))
           else (
            none))
          else (
           bif (t32 == 0) then (
            bif ((decide (0 ≤ t8)) && (decide (t8 < ((List.length v2 : Nat) : Int)))) then (
             bif (t32 == 1) then (
              (f83l2 N n b0_0 b0_1 (List.set v1 (Int.toNat t8) (y1.2.1.1, ((List.getD v1 (Int.toNat t8) (0, (0, ()))).2.1, ()))) (List.set v2 (Int.toNat t8) ((List.getD v2 (Int.toNat t8) (0, (0, ()))).1, (y1.2.1.2.1, ()))) t1 t5 t8 (IntKind.i64.wrap (t32 + 1))).bind some)
             else (
              bif (t32 == 0) then (
               (f83l2 N n b0_0 b0_1 (List.set v1 (Int.toNat t8) (y1.2.1.1, ((List.getD v1 (Int.toNat t8) (0, (0, ()))).2.1, ()))) (List.set v2 (Int.toNat t8) (y1.2.1.2.1, ((List.getD v2 (Int.toNat t8) (0, (0, ()))).2.1, ()))) t1 t5 t8 (IntKind.i64.wrap (t32 + 1))).bind some)
              else (
               none)))
            else (
             none))
           else (
            none)))
         else (
          none))
        else (
         bif (t32 == 0) then (
          (f55v1F N (b0_0, (b0_1, ())) ((List.getD t1 (Int.toNat t8) (0, (0, ()))).2.1, ((IntKind.i64.wrap (0 - (List.getD t1 (Int.toNat (IntKind.i64.wrap (t8 + (IntKind.i64.wrap (Int.tdiv t5 2))))) (0, (0, ()))).1)), ())) (-1) 8).bind fun y2 =>
          bif ((decide (0 ≤ t8)) && (decide (t8 < ((List.length v1 : Nat) : Int)))) then (
           bif (t32 == 1) then (
            bif ((decide (0 ≤ t8)) && (decide (t8 < ((List.length v2 : Nat) : Int)))) then (
             bif (t32 == 1) then (
              (f83l2 N n b0_0 b0_1 (List.set v1 (Int.toNat t8) ((List.getD v1 (Int.toNat t8) (0, (0, ()))).1, (y2.2.1.1, ()))) (List.set v2 (Int.toNat t8) ((List.getD v2 (Int.toNat t8) (0, (0, ()))).1, (y2.2.1.2.1, ()))) t1 t5 t8 (IntKind.i64.wrap (t32 + 1))).bind some)
             else (
              bif (t32 == 0) then (
               (f83l2 N n b0_0 b0_1 (List.set v1 (Int.toNat t8) ((List.getD v1 (Int.toNat t8) (0, (0, ()))).1, (y2.2.1.1, ()))) (List.set v2 (Int.toNat t8) (y2.2.1.2.1, ((List.getD v2 (Int.toNat t8) (0, (0, ()))).2.1, ()))) t1 t5 t8 (IntKind.i64.wrap (t32 + 1))).bind some)
              else (
               none)))
            else (
             none))
           else (
            bif (t32 == 0) then (
             bif ((decide (0 ≤ t8)) && (decide (t8 < ((List.length v2 : Nat) : Int)))) then (
              bif (t32 == 1) then (
               (f83l2 N n b0_0 b0_1 (List.set v1 (Int.toNat t8) (y2.2.1.1, ((List.getD v1 (Int.toNat t8) (0, (0, ()))).2.1, ()))) (List.set v2 (Int.toNat t8) ((List.getD v2 (Int.toNat t8) (0, (0, ()))).1, (y2.2.1.2.1, ()))) t1 t5 t8 (IntKind.i64.wrap (t32 + 1))).bind some)
              else (
               bif (t32 == 0) then (
                (f83l2 N n b0_0 b0_1 (List.set v1 (Int.toNat t8) (y2.2.1.1, ((List.getD v1 (Int.toNat t8) (0, (0, ()))).2.1, ()))) (List.set v2 (Int.toNat t8) (y2.2.1.2.1, ((List.getD v2 (Int.toNat t8) (0, (0, ()))).2.1, ()))) t1 t5 t8 (IntKind.i64.wrap (t32 + 1))).bind some)
               else (
                none)))
             else (
              none))
            else (
             none)))
          else (
           none))
         else (
          none)))
       else (
        none))
      else (
       bif (t32 == 0) then (
        bif ((decide (0 ≤ (IntKind.i64.wrap (t8 + (IntKind.i64.wrap (Int.tdiv t5 2)))))) && (decide ((IntKind.i64.wrap (t8 + (IntKind.i64.wrap (Int.tdiv t5 2)))) < ((List.length t1 : Nat) : Int)))) then (
         bif (t32 == 1) then (
          (f55v1F N (b0_0, (b0_1, ())) ((List.getD t1 (Int.toNat t8) (0, (0, ()))).1, ((IntKind.i64.wrap (0 - (List.getD t1 (Int.toNat (IntKind.i64.wrap (t8 + (IntKind.i64.wrap (Int.tdiv t5 2))))) (0, (0, ()))).2.1)), ())) (-1) 8).bind fun y3 =>
          bif ((decide (0 ≤ t8)) && (decide (t8 < ((List.length v1 : Nat) : Int)))) then (
           bif (t32 == 1) then (
            bif ((decide (0 ≤ t8)) && (decide (t8 < ((List.length v2 : Nat) : Int)))) then (
             bif (t32 == 1) then (
              (f83l2 N n b0_0 b0_1 (List.set v1 (Int.toNat t8) ((List.getD v1 (Int.toNat t8) (0, (0, ()))).1, (y3.2.1.1, ()))) (List.set v2 (Int.toNat t8) ((List.getD v2 (Int.toNat t8) (0, (0, ()))).1, (y3.2.1.2.1, ()))) t1 t5 t8 (IntKind.i64.wrap (t32 + 1))).bind some)
             else (
              bif (t32 == 0) then (
               (f83l2 N n b0_0 b0_1 (List.set v1 (Int.toNat t8) ((List.getD v1 (Int.toNat t8) (0, (0, ()))).1, (y3.2.1.1, ()))) (List.set v2 (Int.toNat t8) (y3.2.1.2.1, ((List.getD v2 (Int.toNat t8) (0, (0, ()))).2.1, ()))) t1 t5 t8 (IntKind.i64.wrap (t32 + 1))).bind some)
              else (
               none)))
            else (
             none))
           else (
            bif (t32 == 0) then (
             bif ((decide (0 ≤ t8)) && (decide (t8 < ((List.length v2 : Nat) : Int)))) then (
              bif (t32 == 1) then (
               (f83l2 N n b0_0 b0_1 (List.set v1 (Int.toNat t8) (y3.2.1.1, ((List.getD v1 (Int.toNat t8) (0, (0, ()))).2.1, ()))) (List.set v2 (Int.toNat t8) ((List.getD v2 (Int.toNat t8) (0, (0, ()))).1, (y3.2.1.2.1, ()))) t1 t5 t8 (IntKind.i64.wrap (t32 + 1))).bind some)
              else (
               bif (t32 == 0) then (
                (f83l2 N n b0_0 b0_1 (List.set v1 (Int.toNat t8) (y3.2.1.1, ((List.getD v1 (Int.toNat t8) (0, (0, ()))).2.1, ()))) (List.set v2 (Int.toNat t8) (y3.2.1.2.1, ((List.getD v2 (Int.toNat t8) (0, (0, ()))).2.1, ()))) t1 t5 t8 (IntKind.i64.wrap (t32 + 1))).bind some)
               else (
                none)))
             else (
              none))
            else (
             none)))
          else (
           none))
         else (
          bif (t32 == 0) then (
           (f55v1F N (b0_0, (b0_1, ())) ((List.getD t1 (Int.toNat t8) (0, (0, ()))).1, ((IntKind.i64.wrap (0 - (List.getD t1 (Int.toNat (IntKind.i64.wrap (t8 + (IntKind.i64.wrap (Int.tdiv t5 2))))) (0, (0, ()))).1)), ())) (-1) 8).bind fun y4 =>
           bif ((decide (0 ≤ t8)) && (decide (t8 < ((List.length v1 : Nat) : Int)))) then (
            bif (t32 == 1) then (
             bif ((decide (0 ≤ t8)) && (decide (t8 < ((List.length v2 : Nat) : Int)))) then (
              bif (t32 == 1) then (
               (f83l2 N n b0_0 b0_1 (List.set v1 (Int.toNat t8) ((List.getD v1 (Int.toNat t8) (0, (0, ()))).1, (y4.2.1.1, ()))) (List.set v2 (Int.toNat t8) ((List.getD v2 (Int.toNat t8) (0, (0, ()))).1, (y4.2.1.2.1, ()))) t1 t5 t8 (IntKind.i64.wrap (t32 + 1))).bind some)
              else (
               bif (t32 == 0) then (
                (f83l2 N n b0_0 b0_1 (List.set v1 (Int.toNat t8) ((List.getD v1 (Int.toNat t8) (0, (0, ()))).1, (y4.2.1.1, ()))) (List.set v2 (Int.toNat t8) (y4.2.1.2.1, ((List.getD v2 (Int.toNat t8) (0, (0, ()))).2.1, ()))) t1 t5 t8 (IntKind.i64.wrap (t32 + 1))).bind some)
               else (
                none)))
             else (
              none))
            else (
             bif (t32 == 0) then (
              bif ((decide (0 ≤ t8)) && (decide (t8 < ((List.length v2 : Nat) : Int)))) then (
               bif (t32 == 1) then (
                (f83l2 N n b0_0 b0_1 (List.set v1 (Int.toNat t8) (y4.2.1.1, ((List.getD v1 (Int.toNat t8) (0, (0, ()))).2.1, ()))) (List.set v2 (Int.toNat t8) ((List.getD v2 (Int.toNat t8) (0, (0, ()))).1, (y4.2.1.2.1, ()))) t1 t5 t8 (IntKind.i64.wrap (t32 + 1))).bind some)
               else (
                bif (t32 == 0) then (
                 (f83l2 N n b0_0 b0_1 (List.set v1 (Int.toNat t8) (y4.2.1.1, ((List.getD v1 (Int.toNat t8) (0, (0, ()))).2.1, ()))) (List.set v2 (Int.toNat t8) (y4.2.1.2.1, ((List.getD v2 (Int.toNat t8) (0, (0, ()))).2.1, ()))) t1 t5 t8 (IntKind.i64.wrap (t32 + 1))).bind some)
                else (
                 none)))
              else (
               none))
             else (
              none)))
           else (
            none))
          else (
           none)))
        else (
         none))
       else (
        none)))
     else (
      none))
    else (
     some (((b0_0, (b0_1, ())), (v1, (v2, ()))), ((), ((), ()))))
def f83l2L (N : Nat) : LoopE .unit := { blk := 2, pre := f83l2p, exits := f83l2x, wr := [9,10,32,33,34,35,36,37,38,39,40,41,42,43,44,45,46,47,48,49,50,51,52,53,54,55,56,57,58,59,60,61,62,63,64,65,66,67,68], F := fun x => f83l2 N N x.1.1.1 x.1.1.2.1 x.1.2.1 x.1.2.2.1 x.2.1 x.2.2.2.1 x.2.2.2.2.2.2.1 x.2.2.2.2.2.2.2.1 }
abbrev f83l0p : Pat := ⟨[.box [.dat .bool, .dat (.clo 42 .unit .unit)], .vec 80 (.agg (.pair I (.pair I .unit))), .vec 80 (.agg (.pair I (.pair I .unit)))], [(1, .dat (.list (.agg (.pair I (.pair I .unit))))), (2, .bptr 0), (5, .dat I), (6, .vref 1), (7, .vref 2), (28, .dat I), (29, .dat I)]⟩
abbrev f83l0x : List (Ex × Pat) := [(.exit 0, ⟨[.box [.dat .bool, .dat (.clo 42 .unit .unit)], .vec 80 (.agg (.pair I (.pair I .unit))), .vec 80 (.agg (.pair I (.pair I .unit)))], [(6, .vref 1), (7, .vref 2)]⟩)]
def f83l0 (N : Nat) : Nat → Bool → (Unit × Unit) → (List (Int × (Int × Unit))) → (List (Int × (Int × Unit))) → (List (Int × (Int × Unit))) → Int → Int → Int → Option (((Bool × ((Unit × Unit) × Unit)) × ((List (Int × (Int × Unit))) × ((List (Int × (Int × Unit))) × Unit))) × (Unit × (Unit × Unit)))
  | 0, _, _, _, _, _, _, _, _ => none
  | n + 1, b0_0, b0_1, v1, v2, t1, t5, t28, t29 =>
    bif (decide (t29 < t28)) then (
     (f83l2 N N b0_0 b0_1 v1 v2 t1 t5 t29 0).bind fun y5 =>
     bif ((decide (0 ≤ t29)) && (decide (t29 < ((List.length y5.1.2.2.1 : Nat) : Int)))) then (
      (f55v1F N (y5.1.1.1, (y5.1.1.2.1, ())) ((List.getD y5.1.2.2.1 (Int.toNat t29) (0, (0, ()))).1, ((List.getD y5.1.2.2.1 (Int.toNat t29) (0, (0, ()))).2.1, ())) (IntKind.i64.wrap (0 - t29)) t5).bind fun y6 =>
      bif ((decide (0 ≤ t29)) && (decide (t29 < ((List.length y5.1.2.2.1 : Nat) : Int)))) then (
       (f83l0 N n y5.1.1.1 y5.1.1.2.1 y5.1.2.1 (List.set y5.1.2.2.1 (Int.toNat t29) (y6.2.1.1, (y6.2.1.2.1, ()))) t1 t5 t28 (IntKind.i64.wrap (t29 + 1))).bind some)
      else (
       none))
     else (
      none))
    else (
     some (((b0_0, (b0_1, ())), (v1, (v2, ()))), ((), ((), ()))))
def f83l0L (N : Nat) : LoopE .unit := { blk := 0, pre := f83l0p, exits := f83l0x, wr := [8,9,10,29,30,31,32,33,34,35,36,37,38,39,40,41,42,43,44,45,46,47,48,49,50,51,52,53,54,55,56,57,58,59,60,61,62,63,64,65,66,67,68,69,70,71,72,73,74,75,76,77,78,79,80,81], F := fun x => f83l0 N N x.1.1.1 x.1.1.2.1 x.1.2.1 x.1.2.2.1 x.2.1 x.2.2.2.1 x.2.2.2.2.2.2.1 x.2.2.2.2.2.2.2.1 }
noncomputable def f83l4c : Code := (((loopsIn 0 f83c)[1]?).map (·.2)).getD .skip
abbrev f83l4p : Pat := ⟨[.vec 80 (.agg (.pair I (.pair I .unit)))], [(6, .dat (.list (.agg (.pair I (.pair I .unit))))), (7, .dat (.list (.agg (.pair I (.pair I .unit))))), (11, .vref 0), (91, .dat I), (92, .dat I)]⟩
abbrev f83l4x : List (Ex × Pat) := [(.exit 4, ⟨[.vec 80 (.agg (.pair I (.pair I .unit)))], [(11, .vref 0)]⟩)]
def f83l4 (N : Nat) : Nat → (List (Int × (Int × Unit))) → (List (Int × (Int × Unit))) → (List (Int × (Int × Unit))) → Int → Int → Option (((List (Int × (Int × Unit))) × Unit) × (Unit × Unit))
  | 0, _, _, _, _, _ => none
  | n + 1, v0, t6, t7, t91, t92 =>
    bif (decide (t92 < t91)) then (
     bif ((decide (0 ≤ t92)) && (decide (t92 < ((List.length t6 : Nat) : Int)))) then (
      bif ((decide (0 ≤ t92)) && (decide (t92 < ((List.length t7 : Nat) : Int)))) then (
       bif ((decide (0 ≤ (IntKind.i64.wrap (2 * t92)))) && (decide ((IntKind.i64.wrap (2 * t92)) < ((List.length v0 : Nat) : Int)))) then (
        bif ((decide (0 ≤ (IntKind.i64.wrap ((IntKind.i64.wrap (2 * t92)) + 1)))) && (decide ((IntKind.i64.wrap ((IntKind.i64.wrap (2 * t92)) + 1)) < ((List.length (List.set v0 (Int.toNat (IntKind.i64.wrap (2 * t92))) ((List.getD t6 (Int.toNat t92) (0, (0, ()))).1, ((List.getD t6 (Int.toNat t92) (0, (0, ()))).2.1, ()))) : Nat) : Int)))) then (
         (f83l4 N n (List.set (List.set v0 (Int.toNat (IntKind.i64.wrap (2 * t92))) ((List.getD t6 (Int.toNat t92) (0, (0, ()))).1, ((List.getD t6 (Int.toNat t92) (0, (0, ()))).2.1, ()))) (Int.toNat (IntKind.i64.wrap ((IntKind.i64.wrap (2 * t92)) + 1))) ((List.getD t7 (Int.toNat t92) (0, (0, ()))).1, ((List.getD t7 (Int.toNat t92) (0, (0, ()))).2.1, ()))) t6 t7 t91 (IntKind.i64.wrap (t92 + 1))).bind some)
        else (
         none))
       else (
        none))
      else (
       none))
     else (
      none))
    else (
     some ((v0, ()), ((), ())))
def f83l4L (N : Nat) : LoopE .unit := { blk := 4, pre := f83l4p, exits := f83l4x, wr := [12,92,93,94,95,96,97,98,99,100,101,102,103,104,105,106,107,108,109,110,111,112], F := fun x => f83l4 N N x.1.1 x.2.1 x.2.2.1 x.2.2.2.2.1 x.2.2.2.2.2.1 }
def f83F (N : Nat) : Nat → (Bool × ((Unit × Unit) × Unit)) → (List (Int × (Int × Unit))) → Option (((List (Int × (Int × Unit))) × Unit) × (Unit × Unit))
  | 0, _, _ => none
  | n + 1, t0, t1 =>
    bif (((List.length t1 : Nat) : Int) == 1) then (
     bif (true && (decide (0 < ((List.length t1 : Nat) : Int)))) then (
      some (([((List.getD t1 0 (0, (0, ()))).1, ((List.getD t1 0 (0, (0, ()))).2.1, ()))], ()), ((), ())))
     else (
      none))
    else (
     bif (((IntKind.i64.wrap (Int.tdiv ((List.length t1 : Nat) : Int) 2)) == (IntKind.i64.wrap (Int.tdiv ((List.length t1 : Nat) : Int) 2))) && (decide (0 ≤ (IntKind.i64.wrap (Int.tdiv ((List.length t1 : Nat) : Int) 2)))) && (decide ((IntKind.i64.wrap (Int.tdiv ((List.length t1 : Nat) : Int) 2)) * 16 ≤ 140737488355328))) then (
      bif (((IntKind.i64.wrap (Int.tdiv ((List.length t1 : Nat) : Int) 2)) == (IntKind.i64.wrap (Int.tdiv ((List.length t1 : Nat) : Int) 2))) && (decide (0 ≤ (IntKind.i64.wrap (Int.tdiv ((List.length t1 : Nat) : Int) 2)))) && (decide ((IntKind.i64.wrap (Int.tdiv ((List.length t1 : Nat) : Int) 2)) * 16 ≤ 140737488355328))) then (
       (f83l0 N N t0.1 t0.2.1 (List.replicate (Int.toNat (IntKind.i64.wrap (Int.tdiv ((List.length t1 : Nat) : Int) 2))) ((0, (0, ())) : (Int × (Int × Unit)))) (List.replicate (Int.toNat (IntKind.i64.wrap (Int.tdiv ((List.length t1 : Nat) : Int) 2))) ((0, (0, ())) : (Int × (Int × Unit)))) t1 ((List.length t1 : Nat) : Int) ((List.length (List.replicate (Int.toNat (IntKind.i64.wrap (Int.tdiv ((List.length t1 : Nat) : Int) 2))) ((0, (0, ())) : (Int × (Int × Unit)))) : Nat) : Int) 0).bind fun y7 =>
       (f83F N n (y7.1.1.1, (y7.1.1.2.1, ())) y7.1.2.1).bind fun y8 =>
       (f83F N n (y7.1.1.1, (y7.1.1.2.1, ())) y7.1.2.2.1).bind fun y9 =>
       bif ((((List.length t1 : Nat) : Int) == ((List.length t1 : Nat) : Int)) && (decide (0 ≤ ((List.length t1 : Nat) : Int))) && (decide (((List.length t1 : Nat) : Int) * 16 ≤ 140737488355328))) then (
        (f83l4 N N (List.replicate (Int.toNat ((List.length t1 : Nat) : Int)) ((0, (0, ())) : (Int × (Int × Unit)))) y8.1.1 y9.1.1 ((List.length y8.1.1 : Nat) : Int) 0).bind fun y10 =>
        some ((y10.1.1, ()), ((), ())))
       else (
        none))
      else (
       none))
     else (
      none))
def f83e (N n : Nat) : Entry := { f := 83, pre := f83p, post := f83o, F := fun x => f83F N n x.2.1 x.2.2.1 }
noncomputable def f83E (N n : Nat) : Env .unit := { P := Try.prog, globs := globs, funs := [f55v1e N, f83e N n], loops := [f83l0L N, f83l2L N, f83l4L N], ranges := [] }
theorem f83l2s (N n : Nat) (n1 : Nat) (g : Unit) (b0_0 : Bool) (b0_1 : (Unit × Unit)) (v1 : (List (Int × (Int × Unit)))) (v2 : (List (Int × (Int × Unit)))) (t1 : (List (Int × (Int × Unit)))) (t5 : Int) (t8 : Int) (t32 : Int) : runLoop (sT := .unit) (f83E N n) (sumTy f83l2x) f83l2x (fun _ y => y) f83l2c f83l2p (fun _ x => f83l2 N n1 x.1.1.1 x.1.1.2.1 x.1.2.1 x.1.2.2.1 x.2.1 x.2.2.2.1 x.2.2.2.2.2.2.1 x.2.2.2.2.2.2.2.1) g (((b0_0, (b0_1, ())), (v1, (v2, ()))), (t1, ((), (t5, ((), ((), (t8, (t32, ())))))))) = f83l2 N (n1 + 1) b0_0 b0_1 v1 v2 t1 t5 t8 t32 := by
  kernel_rfl
theorem f83l2ok (N n : Nat) : LoopOk (f83E N n) Try.prog f83l2c (f83l2L N) :=
  loopOk (L := f83l2L N) (f := fun n x => f83l2 N n x.1.1.1 x.1.1.2.1 x.1.2.1 x.1.2.2.1 x.2.1 x.2.2.2.1 x.2.2.2.2.2.2.1 x.2.2.2.2.2.2.2.1) (N := N) (LoopsOk.none (by kernel_rfl) (by kernel_rfl)) (by kernel_rfl) (by kernel_rfl) rfl rfl (fun _ => rfl) (fun n1 g x => f83l2s N n n1 g x.1.1.1 x.1.1.2.1 x.1.2.1 x.1.2.2.1 x.2.1 x.2.2.2.1 x.2.2.2.2.2.2.1 x.2.2.2.2.2.2.2.1)
theorem f83l0s (N n : Nat) (n1 : Nat) (g : Unit) (b0_0 : Bool) (b0_1 : (Unit × Unit)) (v1 : (List (Int × (Int × Unit)))) (v2 : (List (Int × (Int × Unit)))) (t1 : (List (Int × (Int × Unit)))) (t5 : Int) (t28 : Int) (t29 : Int) : runLoop (sT := .unit) (f83E N n) (sumTy f83l0x) f83l0x (fun _ y => y) f83l0c f83l0p (fun _ x => f83l0 N n1 x.1.1.1 x.1.1.2.1 x.1.2.1 x.1.2.2.1 x.2.1 x.2.2.2.1 x.2.2.2.2.2.2.1 x.2.2.2.2.2.2.2.1) g (((b0_0, (b0_1, ())), (v1, (v2, ()))), (t1, ((), (t5, ((), ((), (t28, (t29, ())))))))) = f83l0 N (n1 + 1) b0_0 b0_1 v1 v2 t1 t5 t28 t29 := by
  kernel_rfl
theorem f83l0ok (N n : Nat) : LoopOk (f83E N n) Try.prog f83l0c (f83l0L N) :=
  loopOk (L := f83l0L N) (f := fun n x => f83l0 N n x.1.1.1 x.1.1.2.1 x.1.2.1 x.1.2.2.1 x.2.1 x.2.2.2.1 x.2.2.2.2.2.2.1 x.2.2.2.2.2.2.2.1) (N := N) (LoopsOk.both (l := [(2, f83l2c)]) (r := []) (by kernel_rfl) (by kernel_rfl) (List.forall_mem_cons.2 ⟨LoopFor.of (L := f83l2L N) (by kernel_rfl) (f83l2ok N n) (by kernel_rfl), (List.forall_mem_nil _)⟩) (List.forall_mem_nil _)) (by kernel_rfl) (by kernel_rfl) rfl rfl (fun _ => rfl) (fun n1 g x => f83l0s N n n1 g x.1.1.1 x.1.1.2.1 x.1.2.1 x.1.2.2.1 x.2.1 x.2.2.2.1 x.2.2.2.2.2.2.1 x.2.2.2.2.2.2.2.1)
theorem f83l4s (N n : Nat) (n1 : Nat) (g : Unit) (v0 : (List (Int × (Int × Unit)))) (t6 : (List (Int × (Int × Unit)))) (t7 : (List (Int × (Int × Unit)))) (t91 : Int) (t92 : Int) : runLoop (sT := .unit) (f83E N n) (sumTy f83l4x) f83l4x (fun _ y => y) f83l4c f83l4p (fun _ x => f83l4 N n1 x.1.1 x.2.1 x.2.2.1 x.2.2.2.2.1 x.2.2.2.2.2.1) g ((v0, ()), (t6, (t7, ((), (t91, (t92, ())))))) = f83l4 N (n1 + 1) v0 t6 t7 t91 t92 := by
  kernel_rfl
theorem f83l4ok (N n : Nat) : LoopOk (f83E N n) Try.prog f83l4c (f83l4L N) :=
  loopOk (L := f83l4L N) (f := fun n x => f83l4 N n x.1.1 x.2.1 x.2.2.1 x.2.2.2.2.1 x.2.2.2.2.2.1) (N := N) (LoopsOk.none (by kernel_rfl) (by kernel_rfl)) (by kernel_rfl) (by kernel_rfl) rfl rfl (fun _ => rfl) (fun n1 g x => f83l4s N n n1 g x.1.1 x.2.1 x.2.2.1 x.2.2.2.2.1 x.2.2.2.2.2.1)
theorem f83q (N n : Nat) (t0 : (Bool × ((Unit × Unit) × Unit))) (t1 : (List (Int × (Int × Unit)))) : runFun (f83E N n) f83o.ty f83o (fun _ y => y) Try.f83 f83p () ((), (t0, (t1, ()))) = f83F N (n + 1) t0 t1 := by
  kernel_rfl
theorem f83ok (N : Nat) : ∀ n, EntryOk Try.prog globs (f83e N n) := by
  intro n
  induction n with
  | zero => exact EntryOk.zero (by kernel_rfl : Try.prog.funcs[83]? = some Try.f83) (by kernel_rfl : Try.f83.body = some f83c) (by kernel_rfl) (fun _ => rfl)
  | succ n ih =>
    refine funOk (E := f83E N n) (e := f83e N (n + 1)) (fn := Try.f83) (c := f83c) rfl (by kernel_rfl) (by kernel_rfl) (by kernel_rfl) (by kernel_rfl) rfl rfl (List.forall_mem_cons.2 ⟨f55v1ok N, (List.forall_mem_cons.2 ⟨ih, (List.forall_mem_nil _)⟩)⟩) (LoopsOk.both (l := [(0, f83l0c), (4, f83l4c)]) (r := []) (by kernel_rfl) (by kernel_rfl) (List.forall_mem_cons.2 ⟨LoopFor.of (L := f83l0L N) (by kernel_rfl) (f83l0ok N n) (by kernel_rfl), (List.forall_mem_cons.2 ⟨LoopFor.of (L := f83l4L N) (by kernel_rfl) (f83l4ok N n) (by kernel_rfl), (List.forall_mem_nil _)⟩)⟩) (List.forall_mem_nil _)) (by kernel_rfl) (by kernel_rfl) (by kernel_rfl) (fun x => f83q N n x.2.1 x.2.2.1)

/-! f61: shawm/dct.Inverse -/
abbrev f61p : Pat := ⟨[], [(0, .dat (.list I))]⟩
abbrev f61o : Pat := ⟨[.vec 3 I], [(0, .vref 0), (1, .dat I)]⟩
noncomputable def f61c : Code := (Try.f61.body).getD .skip
noncomputable def f61r1q : RangeC := ((rangesIn 0 f61c)[0]?).getD ⟨0, .tmp 0, #[], .skip, .skip⟩
noncomputable def f61r1b : Code := f61r1q.body
abbrev f61r1p : Pat := ⟨[.box [.dat (.list I)], .box [.dat I], .box [.dat .bool, .dat (.clo 42 .unit .unit)], .box [.vref 4], .vec 80 (.agg (.pair I (.pair I .unit)))], [(1, .bptr 0), (4, .bptr 1), (5, .bptr 2), (6, .bptr 3)]⟩
abbrev f61r1x : List (Ex × Pat) := []
def f61r1c (N : Nat) (y_0 : Int) (y_1 : (Int × (Int × Unit))) (b0_0 : (List Int)) (b1_0 : Int) (b2_0 : Bool) (b2_1 : (Unit × Unit)) (v4 : (List (Int × (Int × Unit)))) : Option ((((List Int) × Unit) × ((Int × Unit) × ((Bool × ((Unit × Unit) × Unit)) × ((Unit × Unit) × ((List (Int × (Int × Unit))) × Unit))))) ⊕ Unit) :=
  bif ((decide (0 ≤ y_1.1)) && (decide (y_1.1 < ((List.length b0_0 : Nat) : Int)))) then (
   bif ((decide (0 ≤ y_1.2.1)) && (decide (y_1.2.1 < ((List.length b0_0 : Nat) : Int)))) then (
    (f55v1F N (b2_0, (b2_1, ())) ((List.getD b0_0 (Int.toNat y_1.1) 0), ((IntKind.i64.wrap (0 - (List.getD b0_0 (Int.toNat y_1.2.1) 0))), ())) (IntKind.i64.wrap (0 - (IntKind.i64.wrap ((IntKind.i64.wrap (8 * y_0)) + 1)))) (IntKind.i64.wrap (16 * b1_0))).bind fun y1 =>
    bif ((decide (0 ≤ y_0)) && (decide (y_0 < ((List.length v4 : Nat) : Int)))) then (
     some (Sum.inl ((b0_0, ()), ((b1_0, ()), ((b2_0, (b2_1, ())), (((), ()), ((List.set v4 (Int.toNat y_0) (y1.2.1.1, (y1.2.1.2.1, ()))), ())))))))
    else (
     none))
   else (
    none))
  else (
   none)
def f61r1d (N : Nat) (y : (Int × ((Int × (Int × Unit)) × Unit))) (x : ((((List Int) × Unit) × ((Int × Unit) × ((Bool × ((Unit × Unit) × Unit)) × ((Unit × Unit) × ((List (Int × (Int × Unit))) × Unit))))) × (Unit × (Unit × (Unit × (Unit × Unit)))))) : Option ((((List Int) × Unit) × ((Int × Unit) × ((Bool × ((Unit × Unit) × Unit)) × ((Unit × Unit) × ((List (Int × (Int × Unit))) × Unit))))) ⊕ Unit) := f61r1c N y.1 y.2.1 x.1.1.1 x.1.2.1.1 x.1.2.2.1.1 x.1.2.2.1.2.1 x.1.2.2.2.2.1
def f61r1F (N : Nat) (c : (Unit × (Int × Unit))) (b0_0 : (List Int)) (b1_0 : Int) (b2_0 : Bool) (b2_1 : (Unit × Unit)) (v4 : (List (Int × (Int × Unit)))) : Option ((((List Int) × Unit) × ((Int × Unit) × ((Bool × ((Unit × Unit) × Unit)) × ((Unit × Unit) × ((List (Int × (Int × Unit))) × Unit))))) × Unit) := (i73F N (.sum (.pair (.pair (.list I) .unit) (.pair (.pair I .unit) (.pair (.pair .bool (.pair (.clo 42 .unit .unit) .unit)) (.pair (.pair .unit .unit) (.pair (.list (.agg (.pair I (.pair I .unit)))) .unit))))) .unit) (stepRound fun y o => f61r1d N y (o, ((), ((), ((), ((), ())))))) c.2.1 (Sum.inl ((b0_0, ()), ((b1_0, ()), ((b2_0, (b2_1, ())), (((), ()), (v4, ()))))))).bind (finish f61r1p f61r1x)
def f61r1R (N : Nat) : RangeE := rangeE 1 (i73e N) f61r1p f61r1x (f61r1d N)
noncomputable def f61r3q : RangeC := ((rangesIn 0 f61c)[1]?).getD ⟨0, .tmp 0, #[], .skip, .skip⟩
noncomputable def f61r3b : Code := f61r3q.body
abbrev f61r3p : Pat := ⟨[.box [.dat I], .box [.dat .bool, .dat (.clo 42 .unit .unit)], .box [.vref 4], .box [.vref 5], .vec 80 (.agg (.pair I (.pair I .unit))), .vec 3 I], [(4, .bptr 0), (5, .bptr 1), (6, .bptr 2), (9, .bptr 3)]⟩
abbrev f61r3x : List (Ex × Pat) := []
def f61r3c (N : Nat) (y_0 : Int) (y_1 : (Int × (Int × Unit))) (b0_0 : Int) (b1_0 : Bool) (b1_1 : (Unit × Unit)) (v4 : (List (Int × (Int × Unit)))) (v5 : (List Int)) : Option (((Int × Unit) × ((Bool × ((Unit × Unit) × Unit)) × ((Unit × Unit) × ((Unit × Unit) × ((List (Int × (Int × Unit))) × ((List Int) × Unit)))))) ⊕ Unit) :=
  bif ((decide (0 ≤ y_0)) && (decide (y_0 < ((List.length v4 : Nat) : Int)))) then (
   (f55v1F N (b1_0, (b1_1, ())) ((List.getD v4 (Int.toNat y_0) (0, (0, ()))).1, ((List.getD v4 (Int.toNat y_0) (0, (0, ()))).2.1, ())) (IntKind.i64.wrap (0 - (IntKind.i64.wrap ((IntKind.i64.wrap (8 * y_0)) + 1)))) (IntKind.i64.wrap (16 * b0_0))).bind fun y2 =>
   bif ((decide (0 ≤ y_1.1)) && (decide (y_1.1 < ((List.length v5 : Nat) : Int)))) then (
    bif ((decide (0 ≤ y_1.2.1)) && (decide (y_1.2.1 < ((List.length (List.set v5 (Int.toNat y_1.1) y2.2.1.1) : Nat) : Int)))) then (
     some (Sum.inl ((b0_0, ()), ((b1_0, (b1_1, ())), (((), ()), (((), ()), (v4, ((List.set (List.set v5 (Int.toNat y_1.1) y2.2.1.1) (Int.toNat y_1.2.1) y2.2.1.2.1), ()))))))))
    else (
     none))
   else (
    none))
  else (
   none)
def f61r3d (N : Nat) (y : (Int × ((Int × (Int × Unit)) × Unit))) (x : (((Int × Unit) × ((Bool × ((Unit × Unit) × Unit)) × ((Unit × Unit) × ((Unit × Unit) × ((List (Int × (Int × Unit))) × ((List Int) × Unit)))))) × (Unit × (Unit × (Unit × (Unit × Unit)))))) : Option (((Int × Unit) × ((Bool × ((Unit × Unit) × Unit)) × ((Unit × Unit) × ((Unit × Unit) × ((List (Int × (Int × Unit))) × ((List Int) × Unit)))))) ⊕ Unit) := f61r3c N y.1 y.2.1 x.1.1.1 x.1.2.1.1 x.1.2.1.2.1 x.1.2.2.2.2.1 x.1.2.2.2.2.2.1
def f61r3F (N : Nat) (c : (Unit × (Int × Unit))) (b0_0 : Int) (b1_0 : Bool) (b1_1 : (Unit × Unit)) (v4 : (List (Int × (Int × Unit)))) (v5 : (List Int)) : Option (((Int × Unit) × ((Bool × ((Unit × Unit) × Unit)) × ((Unit × Unit) × ((Unit × Unit) × ((List (Int × (Int × Unit))) × ((List Int) × Unit)))))) × Unit) := (i73F N (.sum (.pair (.pair I .unit) (.pair (.pair .bool (.pair (.clo 42 .unit .unit) .unit)) (.pair (.pair .unit .unit) (.pair (.pair .unit .unit) (.pair (.list (.agg (.pair I (.pair I .unit)))) (.pair (.list I) .unit)))))) .unit) (stepRound fun y o => f61r3d N y (o, ((), ((), ((), ((), ())))))) c.2.1 (Sum.inl ((b0_0, ()), ((b1_0, (b1_1, ())), (((), ()), (((), ()), (v4, (v5, ())))))))).bind (finish f61r3p f61r3x)
def f61r3R (N : Nat) : RangeE := rangeE 3 (i73e N) f61r3p f61r3x (f61r3d N)
def f61F (N : Nat) (t0 : (List Int)) : Option (((List Int) × Unit) × (Unit × (Int × Unit))) :=
  (f51F N ((List.length t0 : Nat) : Int) 2 128).bind fun y3 =>
  bif (!y3.2.1) then (
   some ((([] : List Int), ()), ((), (1, ()))))
  else (
   (f52F N 33554432 [t0]).bind fun y4 =>
   bif (!y4.2.1) then (
    some ((([] : List Int), ()), ((), (6, ()))))
   else (
    (f82F N).bind fun y5 =>
    bif (((IntKind.i64.wrap (Int.tdiv ((List.length t0 : Nat) : Int) 2)) == (IntKind.i64.wrap (Int.tdiv ((List.length t0 : Nat) : Int) 2))) && (decide (0 ≤ (IntKind.i64.wrap (Int.tdiv ((List.length t0 : Nat) : Int) 2)))) && (decide ((IntKind.i64.wrap (Int.tdiv ((List.length t0 : Nat) : Int) 2)) * 16 ≤ 140737488355328))) then (
     (f54F N ((List.length t0 : Nat) : Int)).bind fun y6 =>
     (f61r1F N y6.2.1 t0 ((List.length t0 : Nat) : Int) y5.2.1.1 y5.2.1.2.1 (List.replicate (Int.toNat (IntKind.i64.wrap (Int.tdiv ((List.length t0 : Nat) : Int) 2))) ((0, (0, ())) : (Int × (Int × Unit))))).bind fun y7 =>
     (f83F N N (y7.1.2.2.1.1, (y7.1.2.2.1.2.1, ())) y7.1.2.2.2.2.1).bind fun y8 =>
     bif ((y7.1.2.1.1 == y7.1.2.1.1) && (decide (0 ≤ y7.1.2.1.1)) && (decide (y7.1.2.1.1 * 8 ≤ 140737488355328))) then (
      (f54F N y7.1.2.1.1).bind fun y9 =>
      (f61r3F N y9.2.1 y7.1.2.1.1 y7.1.2.2.1.1 y7.1.2.2.1.2.1 y8.1.1 (List.replicate (Int.toNat y7.1.2.1.1) (0 : Int))).bind fun y10 =>
      some ((y10.1.2.2.2.2.2.1, ()), ((), (0, ()))))
     else (
      none))
    else (
     none)))
def f61e (N : Nat) : Entry := { f := 61, pre := f61p, post := f61o, F := fun x => f61F N x.2.1 }
noncomputable def f61E (N : Nat) : Env .unit := { P := Try.prog, globs := globs, funs := [f51e N, f52e N, f82e N, f54e N, f55v1e N, f83e N N], loops := [], ranges := [f61r1R N, f61r3R N] }
theorem f61r1s (N : Nat) (g : Unit) (y_0 : Int) (y_1 : (Int × (Int × Unit))) (b0_0 : (List Int)) (b1_0 : Int) (b2_0 : Bool) (b2_1 : (Unit × Unit)) (v4 : (List (Int × (Int × Unit)))) : runRound (sT := .unit) (f61E N) f61r1p f61r1x f61r1q.ps.toList f61r1q.assign f61r1q.body (i73e N).Y g (y_0, (y_1, ())) (((b0_0, ()), ((b1_0, ()), ((b2_0, (b2_1, ())), (((), ()), (v4, ()))))), ((), ((), ((), ((), ()))))) = f61r1d N (y_0, (y_1, ())) (((b0_0, ()), ((b1_0, ()), ((b2_0, (b2_1, ())), (((), ()), (v4, ()))))), ((), ((), ((), ((), ()))))) := by
  kernel_rfl
theorem f61r1ok (N : Nat) : RangeOk (f61E N) Try.prog f61r1q.f f61r1q.ps f61r1q.assign f61r1q.body (f61r1R N) :=
  rangeOk (E := f61E N) (it := i73e N) (pre := f61r1p) (exits := f61r1x) (round := f61r1d N) (i73ok N) rfl (fun g y x => f61r1s N g y.1 y.2.1 x.1.1.1 x.1.2.1.1 x.1.2.2.1.1 x.1.2.2.1.2.1 x.1.2.2.2.2.1) (LoopsOk.none (by kernel_rfl) (by kernel_rfl)) (LoopsOk.none (by kernel_rfl) (by kernel_rfl)) (by kernel_rfl) (by kernel_rfl) (by kernel_rfl) (by kernel_rfl)
theorem f61r3s (N : Nat) (g : Unit) (y_0 : Int) (y_1 : (Int × (Int × Unit))) (b0_0 : Int) (b1_0 : Bool) (b1_1 : (Unit × Unit)) (v4 : (List (Int × (Int × Unit)))) (v5 : (List Int)) : runRound (sT := .unit) (f61E N) f61r3p f61r3x f61r3q.ps.toList f61r3q.assign f61r3q.body (i73e N).Y g (y_0, (y_1, ())) (((b0_0, ()), ((b1_0, (b1_1, ())), (((), ()), (((), ()), (v4, (v5, ())))))), ((), ((), ((), ((), ()))))) = f61r3d N (y_0, (y_1, ())) (((b0_0, ()), ((b1_0, (b1_1, ())), (((), ()), (((), ()), (v4, (v5, ())))))), ((), ((), ((), ((), ()))))) := by
  kernel_rfl
theorem f61r3ok (N : Nat) : RangeOk (f61E N) Try.prog f61r3q.f f61r3q.ps f61r3q.assign f61r3q.body (f61r3R N) :=
  rangeOk (E := f61E N) (it := i73e N) (pre := f61r3p) (exits := f61r3x) (round := f61r3d N) (i73ok N) rfl (fun g y x => f61r3s N g y.1 y.2.1 x.1.1.1 x.1.2.1.1 x.1.2.1.2.1 x.1.2.2.2.2.1 x.1.2.2.2.2.2.1) (LoopsOk.none (by kernel_rfl) (by kernel_rfl)) (LoopsOk.none (by kernel_rfl) (by kernel_rfl)) (by kernel_rfl) (by kernel_rfl) (by kernel_rfl) (by kernel_rfl)
theorem f61q (N : Nat) (t0 : (List Int)) : runFun (f61E N) f61o.ty f61o (fun _ y => y) Try.f61 f61p () ((), (t0, ())) = f61F N t0 := by
  kernel_rfl
theorem f61ok (N : Nat) : EntryOk Try.prog globs (f61e N) :=
  funOk (E := f61E N) (e := f61e N) (fn := Try.f61) (c := f61c) rfl (by kernel_rfl) (by kernel_rfl) (by kernel_rfl) (by kernel_rfl) rfl rfl (List.forall_mem_cons.2 ⟨f51ok N, (List.forall_mem_cons.2 ⟨f52ok N, (List.forall_mem_cons.2 ⟨f82ok N, (List.forall_mem_cons.2 ⟨f54ok N, (List.forall_mem_cons.2 ⟨f55v1ok N, (List.forall_mem_cons.2 ⟨f83ok N N, (List.forall_mem_nil _)⟩)⟩)⟩)⟩)⟩)⟩) (LoopsOk.both (l := []) (r := [f61r1q, f61r3q]) (by kernel_rfl) (by kernel_rfl) (List.forall_mem_nil _) (List.forall_mem_cons.2 ⟨RangeFor.of (L := f61r1R N) (by kernel_rfl) (f61r1ok N) rfl, (List.forall_mem_cons.2 ⟨RangeFor.of (L := f61r3R N) (by kernel_rfl) (f61r3ok N) rfl, (List.forall_mem_nil _)⟩)⟩)) (by kernel_rfl) (by kernel_rfl) (by kernel_rfl) (fun x => f61q N x.2.1)

/-! f34v1: shawm/lap.blocks[int] -/
abbrev f34v1p : Pat := ⟨[], [(0, .dat (.list I)), (1, .dat (.list I)), (2, .dat (.clo 61 .unit .unit))]⟩
abbrev f34v1o : Pat := ⟨[.vec 3 I], [(0, .vref 0)]⟩
noncomputable def f34v1c : Code := (Try.f34.body).getD .skip
noncomputable def f34v1l0c : Code := (((loopsIn 0 f34v1c)[0]?).map (·.2)).getD .skip
abbrev f34v1l0p : Pat := ⟨[.vec 3 I], [(0, .dat (.list I)), (2, .dat (.clo 61 .unit .unit)), (7, .vref 0), (12, .dat (.list I)), (13, .dat I), (14, .dat I)]⟩
abbrev f34v1l0x : List (Ex × Pat) := [(.exit 0, ⟨[.vec 3 I], [(7, .vref 0)]⟩)]
def f34v1l0 (N : Nat) : Nat → (List Int) → (List Int) → (Unit × Unit) → (List Int) → Int → Int → Option (((List Int) × Unit) × (Unit × Unit))
  | 0, _, _, _, _, _, _ => none
  | n + 1, v0, t0, t2, t12, t13, t14 =>
    bif (decide (t14 < t13)) then (
     bif ((decide (0 ≤ t14)) && (decide (t14 < ((List.length t12 : Nat) : Int)))) then (
      bif ((true && (decide (0 ≤ (List.getD t12 (Int.toNat t14) 0)))) && ((decide ((List.getD t12 (Int.toNat t14) 0) ≤ (List.getD t12 (Int.toNat t14) 0))) && (decide ((List.getD t12 (Int.toNat t14) 0) ≤ ((List.length t0 : Nat) : Int))))) then (
       (f61F N (t0.take (Int.toNat (List.getD t12 (Int.toNat t14) 0)))).bind fun y1 =>
       bif (decide ((List.length v0 + List.length y1.1.1) * 8 ≤ 140737488355328)) then (
        bif (((decide (0 ≤ (List.getD t12 (Int.toNat t14) 0))) && (decide ((List.getD t12 (Int.toNat t14) 0) ≤ ((List.length t0 : Nat) : Int)))) && (decide (((List.length t0 : Nat) : Int) ≤ ((List.length t0 : Nat) : Int)))) then (
         (f34v1l0 N n (List.append v0 y1.1.1) (t0.drop (Int.toNat (List.getD t12 (Int.toNat t14) 0))) t2 t12 t13 (IntKind.i64.wrap (t14 + 1))).bind some)
        else (
         none))
       else (
        none))
      else (
       none))
     else (
      none))
    else (
     some ((v0, ()), ((), ())))
def f34v1l0L (N : Nat) : LoopE .unit := { blk := 0, pre := f34v1l0p, exits := f34v1l0x, wr := [0,7,9,10,11,14,15,16,17,18,19,20,21,22,23,24,25,26,27,28,29,30,31,32,33], F := fun x => f34v1l0 N N x.1.1 x.2.1 x.2.2.1 x.2.2.2.2.1 x.2.2.2.2.2.1 x.2.2.2.2.2.2.1 }
def f34v1F (N : Nat) (t0 : (List Int)) (t1 : (List Int)) (t2 : (Unit × Unit)) : Option (((List Int) × Unit) × (Unit × Unit)) :=
  (f34v1l0 N N ([] : List Int) t0 t2 t1 ((List.length t1 : Nat) : Int) 0).bind fun y2 =>
  some ((y2.1.1, ()), ((), ()))
def f34v1e (N : Nat) : Entry := { f := 34, pre := f34v1p, post := f34v1o, F := fun x => f34v1F N x.2.1 x.2.2.1 x.2.2.2.1 }
noncomputable def f34v1E (N : Nat) : Env .unit := { P := Try.prog, globs := globs, funs := [f61e N], loops := [f34v1l0L N], ranges := [] }
theorem f34v1l0s (N : Nat) (n1 : Nat) (g : Unit) (v0 : (List Int)) (t0 : (List Int)) (t2 : (Unit × Unit)) (t12 : (List Int)) (t13 : Int) (t14 : Int) : runLoop (sT := .unit) (f34v1E N) (sumTy f34v1l0x) f34v1l0x (fun _ y => y) f34v1l0c f34v1l0p (fun _ x => f34v1l0 N n1 x.1.1 x.2.1 x.2.2.1 x.2.2.2.2.1 x.2.2.2.2.2.1 x.2.2.2.2.2.2.1) g ((v0, ()), (t0, (t2, ((), (t12, (t13, (t14, ()))))))) = f34v1l0 N (n1 + 1) v0 t0 t2 t12 t13 t14 := by
  kernel_rfl
theorem f34v1l0ok (N : Nat) : LoopOk (f34v1E N) Try.prog f34v1l0c (f34v1l0L N) :=
  loopOk (L := f34v1l0L N) (f := fun n x => f34v1l0 N n x.1.1 x.2.1 x.2.2.1 x.2.2.2.2.1 x.2.2.2.2.2.1 x.2.2.2.2.2.2.1) (N := N) (LoopsOk.none (by kernel_rfl) (by kernel_rfl)) (by kernel_rfl) (by kernel_rfl) rfl rfl (fun _ => rfl) (fun n1 g x => f34v1l0s N n1 g x.1.1 x.2.1 x.2.2.1 x.2.2.2.2.1 x.2.2.2.2.2.1 x.2.2.2.2.2.2.1)
theorem f34v1q (N : Nat) (t0 : (List Int)) (t1 : (List Int)) (t2 : (Unit × Unit)) : runFun (f34v1E N) f34v1o.ty f34v1o (fun _ y => y) Try.f34 f34v1p () ((), (t0, (t1, (t2, ())))) = f34v1F N t0 t1 t2 := by
  kernel_rfl
theorem f34v1ok (N : Nat) : EntryOk Try.prog globs (f34v1e N) :=
  funOk (E := f34v1E N) (e := f34v1e N) (fn := Try.f34) (c := f34v1c) rfl (by kernel_rfl) (by kernel_rfl) (by kernel_rfl) (by kernel_rfl) rfl rfl (List.forall_mem_cons.2 ⟨f61ok N, (List.forall_mem_nil _)⟩) (LoopsOk.both (l := [(0, f34v1l0c)]) (r := []) (by kernel_rfl) (by kernel_rfl) (List.forall_mem_cons.2 ⟨LoopFor.of (L := f34v1l0L N) (by kernel_rfl) (f34v1l0ok N) (by kernel_rfl), (List.forall_mem_nil _)⟩) (List.forall_mem_nil _)) (by kernel_rfl) (by kernel_rfl) (by kernel_rfl) (fun x => f34v1q N x.2.1 x.2.2.1 x.2.2.2.1)

/-! f38: shawm/lap.inverse -/
abbrev f38p : Pat := ⟨[], [(0, .dat (.list I)), (1, .dat (.list I))]⟩
abbrev f38o : Pat := ⟨[.vec 3 I], [(0, .vref 0)]⟩
noncomputable def f38c : Code := (Try.f38.body).getD .skip
def f38F (N : Nat) (t0 : (List Int)) (t1 : (List Int)) : Option (((List Int) × Unit) × (Unit × Unit)) :=
  (f34v1F N t0 t1 ((), ())).bind fun y1 =>
  (f32v3F N y1.1.1 t1 ((), ())).bind fun y2 =>
  some ((y2.1.1, ()), ((), ()))
def f38e (N : Nat) : Entry := { f := 38, pre := f38p, post := f38o, F := fun x => f38F N x.2.1 x.2.2.1 }
noncomputable def f38E (N : Nat) : Env .unit := { P := Try.prog, globs := globs, funs := [f34v1e N, f32v3e N], loops := [], ranges := [] }
theorem f38q (N : Nat) (t0 : (List Int)) (t1 : (List Int)) : runFun (f38E N) f38o.ty f38o (fun _ y => y) Try.f38 f38p () ((), (t0, (t1, ()))) = f38F N t0 t1 := by
  kernel_rfl
theorem f38ok (N : Nat) : EntryOk Try.prog globs (f38e N) :=
  funOk (E := f38E N) (e := f38e N) (fn := Try.f38) (c := f38c) rfl (by kernel_rfl) (by kernel_rfl) (by kernel_rfl) (by kernel_rfl) rfl rfl (List.forall_mem_cons.2 ⟨f34v1ok N, (List.forall_mem_cons.2 ⟨f32v3ok N, (List.forall_mem_nil _)⟩)⟩) (LoopsOk.none (by kernel_rfl) (by kernel_rfl)) (by kernel_rfl) (by kernel_rfl) (by kernel_rfl) (fun x => f38q N x.2.1 x.2.2.1)

/-! f17: shawm/lap.Inverse -/
abbrev f17p : Pat := ⟨[], [(0, .dat (.list I)), (1, .dat (.list I))]⟩
abbrev f17o : Pat := ⟨[.vec 3 I], [(0, .vref 0), (1, .dat I)]⟩
noncomputable def f17c : Code := (Try.f17.body).getD .skip
def f17F (N : Nat) (t0 : (List Int)) (t1 : (List Int)) : Option (((List Int) × Unit) × (Unit × (Int × Unit))) :=
  (f30F N t0 t1 2097152).bind fun y1 =>
  bif (y1.2.1 != 0) then (
   some ((([] : List Int), ()), ((), (y1.2.1, ()))))
  else (
   (f38F N t0 t1).bind fun y2 =>
   some ((y2.1.1, ()), ((), (0, ()))))
def f17e (N : Nat) : Entry := { f := 17, pre := f17p, post := f17o, F := fun x => f17F N x.2.1 x.2.2.1 }
noncomputable def f17E (N : Nat) : Env .unit := { P := Try.prog, globs := globs, funs := [f30e N, f38e N], loops := [], ranges := [] }
theorem f17q (N : Nat) (t0 : (List Int)) (t1 : (List Int)) : runFun (f17E N) f17o.ty f17o (fun _ y => y) Try.f17 f17p () ((), (t0, (t1, ()))) = f17F N t0 t1 := by
  kernel_rfl
theorem f17ok (N : Nat) : EntryOk Try.prog globs (f17e N) :=
  funOk (E := f17E N) (e := f17e N) (fn := Try.f17) (c := f17c) rfl (by kernel_rfl) (by kernel_rfl) (by kernel_rfl) (by kernel_rfl) rfl rfl (List.forall_mem_cons.2 ⟨f30ok N, (List.forall_mem_cons.2 ⟨f38ok N, (List.forall_mem_nil _)⟩)⟩) (LoopsOk.none (by kernel_rfl) (by kernel_rfl)) (by kernel_rfl) (by kernel_rfl) (by kernel_rfl) (fun x => f17q N x.2.1 x.2.2.1)

end Go.Sh.c08

namespace Go.Sh.c08
open Go.Proofs

/-! f23: shawm/lap.Some -/
abbrev f23p : Pat := ⟨[], [(0, .dat (.list I)), (1, .dat (.list I)), (2, .dat I), (3, .dat I)]⟩
abbrev f23o : Pat := ⟨[.vec 3 I], [(0, .vref 0), (1, .dat I)]⟩
noncomputable def f23c : Code := (Try.f23.body).getD .skip
def f23F (N : Nat) (t0 : (List Int)) (t1 : (List Int)) (t2 : Int) (t3 : Int) : Option (((List Int) × Unit) × (Unit × (Int × Unit))) :=
  (f43F N t1).bind fun y1 =>
  bif (!y1.2.1) then (
   some ((([] : List Int), ()), ((), (1, ()))))
  else (
   (f44F N t1).bind fun y2 =>
   bif (((List.length t0 : Nat) : Int) != y2.2.1) then (
    some ((([] : List Int), ()), ((), (4, ()))))
   else (
    bif (decide (t2 < 0)) then (
     some ((([] : List Int), ()), ((), (5, ()))))
    else (
     bif (decide (t3 < t2)) then (
      some ((([] : List Int), ()), ((), (5, ()))))
     else (
      bif (decide (((List.length t1 : Nat) : Int) < t3)) then (
       some ((([] : List Int), ()), ((), (5, ()))))
      else (
       bif (((decide (0 ≤ (if 0 > (IntKind.i64.wrap (t2 - 1)) then 0 else (IntKind.i64.wrap (t2 - 1))))) && (decide ((if 0 > (IntKind.i64.wrap (t2 - 1)) then 0 else (IntKind.i64.wrap (t2 - 1))) ≤ (if ((List.length t1 : Nat) : Int) < (IntKind.i64.wrap (t3 + 1)) then ((List.length t1 : Nat) : Int) else (IntKind.i64.wrap (t3 + 1)))))) && ((decide ((if ((List.length t1 : Nat) : Int) < (IntKind.i64.wrap (t3 + 1)) then ((List.length t1 : Nat) : Int) else (IntKind.i64.wrap (t3 + 1))) ≤ (if ((List.length t1 : Nat) : Int) < (IntKind.i64.wrap (t3 + 1)) then ((List.length t1 : Nat) : Int) else (IntKind.i64.wrap (t3 + 1))))) && (decide ((if ((List.length t1 : Nat) : Int) < (IntKind.i64.wrap (t3 + 1)) then ((List.length t1 : Nat) : Int) else (IntKind.i64.wrap (t3 + 1))) ≤ ((List.length t1 : Nat) : Int))))) then (
        bif ((true && (decide (0 ≤ (if 0 > (IntKind.i64.wrap (t2 - 1)) then 0 else (IntKind.i64.wrap (t2 - 1)))))) && (decide ((if 0 > (IntKind.i64.wrap (t2 - 1)) then 0 else (IntKind.i64.wrap (t2 - 1))) ≤ ((List.length t1 : Nat) : Int)))) then (
         (f44F N (t1.take (Int.toNat (if 0 > (IntKind.i64.wrap (t2 - 1)) then 0 else (IntKind.i64.wrap (t2 - 1)))))).bind fun y3 =>
         (f44F N ((t1.take (Int.toNat (if ((List.length t1 : Nat) : Int) < (IntKind.i64.wrap (t3 + 1)) then ((List.length t1 : Nat) : Int) else (IntKind.i64.wrap (t3 + 1))))).drop (Int.toNat (if 0 > (IntKind.i64.wrap (t2 - 1)) then 0 else (IntKind.i64.wrap (t2 - 1)))))).bind fun y4 =>
         bif (((decide (0 ≤ y3.2.1)) && (decide (y3.2.1 ≤ (IntKind.i64.wrap (y3.2.1 + y4.2.1))))) && (decide ((IntKind.i64.wrap (y3.2.1 + y4.2.1)) ≤ ((List.length t0 : Nat) : Int)))) then (
          (f30F N ((t0.take (Int.toNat (IntKind.i64.wrap (y3.2.1 + y4.2.1)))).drop (Int.toNat y3.2.1)) ((t1.take (Int.toNat (if ((List.length t1 : Nat) : Int) < (IntKind.i64.wrap (t3 + 1)) then ((List.length t1 : Nat) : Int) else (IntKind.i64.wrap (t3 + 1))))).drop (Int.toNat (if 0 > (IntKind.i64.wrap (t2 - 1)) then 0 else (IntKind.i64.wrap (t2 - 1))))) 2097152).bind fun y5 =>
          bif (y5.2.1 != 0) then (
           some ((([] : List Int), ()), ((), (y5.2.1, ()))))
          else (
           (f38F N ((t0.take (Int.toNat (IntKind.i64.wrap (y3.2.1 + y4.2.1)))).drop (Int.toNat y3.2.1)) ((t1.take (Int.toNat (if ((List.length t1 : Nat) : Int) < (IntKind.i64.wrap (t3 + 1)) then ((List.length t1 : Nat) : Int) else (IntKind.i64.wrap (t3 + 1))))).drop (Int.toNat (if 0 > (IntKind.i64.wrap (t2 - 1)) then 0 else (IntKind.i64.wrap (t2 - 1)))))).bind fun y6 =>
           bif (((decide (0 ≤ (if 0 > (IntKind.i64.wrap (t2 - 1)) then 0 else (IntKind.i64.wrap (t2 - 1))))) && (decide ((if 0 > (IntKind.i64.wrap (t2 - 1)) then 0 else (IntKind.i64.wrap (t2 - 1))) ≤ t2))) && (decide (t2 ≤ ((List.length t1 : Nat) : Int)))) then (
            (f44F N ((t1.take (Int.toNat t2)).drop (Int.toNat (if 0 > (IntKind.i64.wrap (t2 - 1)) then 0 else (IntKind.i64.wrap (t2 - 1)))))).bind fun y7 =>
            bif (((decide (0 ≤ t2)) && (decide (t2 ≤ t3))) && (decide (t3 ≤ ((List.length t1 : Nat) : Int)))) then (
             (f44F N ((t1.take (Int.toNat t3)).drop (Int.toNat t2))).bind fun y8 =>
             bif ((((decide (0 ≤ y7.2.1)) && (decide (y7.2.1 ≤ (IntKind.i64.wrap (y7.2.1 + y8.2.1))))) && (decide ((IntKind.i64.wrap (y7.2.1 + y8.2.1)) ≤ ((List.length y6.1.1 : Nat) : Int)))) && true) then (
              (f31F N (cutAt (Int.toNat y7.2.1) ((Int.toNat (IntKind.i64.wrap (y7.2.1 + y8.2.1))) - (Int.toNat y7.2.1)) y6.1.1)).bind fun y9 =>
              some ((y9.1.1, ()), ((), (0, ()))))
             else (
              none))
            else (
             none))
           else (
            none)))
         else (
          none))
        else (
         none))
       else (
        none))))))
def f23e (N : Nat) : Entry := { f := 23, pre := f23p, post := f23o, F := fun x => f23F N x.2.1 x.2.2.1 x.2.2.2.1 x.2.2.2.2.1 }
noncomputable def f23E (N : Nat) : Env .unit := { P := Try.prog, globs := globs, funs := [f43e N, f44e N, f30e N, f38e N, f31e N], loops := [], ranges := [] }
theorem f23q (N : Nat) (t0 : (List Int)) (t1 : (List Int)) (t2 : Int) (t3 : Int) : runFun (f23E N) f23o.ty f23o (fun _ y => y) Try.f23 f23p () ((), (t0, (t1, (t2, (t3, ()))))) = f23F N t0 t1 t2 t3 := by
  kernel_rfl
theorem f23ok (N : Nat) : EntryOk Try.prog globs (f23e N) :=
  funOk (E := f23E N) (e := f23e N) (fn := Try.f23) (c := f23c) rfl (by kernel_rfl) (by kernel_rfl) (by kernel_rfl) (by kernel_rfl) rfl rfl (List.forall_mem_cons.2 ⟨f43ok N, (List.forall_mem_cons.2 ⟨f44ok N, (List.forall_mem_cons.2 ⟨f30ok N, (List.forall_mem_cons.2 ⟨f38ok N, (List.forall_mem_cons.2 ⟨f31ok N, (List.forall_mem_nil _)⟩)⟩)⟩)⟩)⟩) (LoopsOk.none (by kernel_rfl) (by kernel_rfl)) (by kernel_rfl) (by kernel_rfl) (by kernel_rfl) (fun x => f23q N x.2.1 x.2.2.1 x.2.2.2.1 x.2.2.2.2.1)

/-! f16: shawm/shawmref02.Ints -/
abbrev f16p : Pat := ⟨[], [(0, .dat (.list I)), (1, .dat (.list I))]⟩
abbrev f16o : Pat := ⟨[], [(0, .dat .bool)]⟩
noncomputable def f16c : Code := (Try.f16.body).getD .skip
noncomputable def f16l0c : Code := (((loopsIn 0 f16c)[0]?).map (·.2)).getD .skip
abbrev f16l0p : Pat := ⟨[], [(0, .dat (.list I)), (1, .dat (.list I)), (12, .dat I), (13, .dat I)]⟩
abbrev f16l0x : List (Ex × Pat) := [(.exit 0, ⟨[], []⟩), (.ret, ⟨[], [(4, .dat .bool)]⟩)]
def f16l0 (N : Nat) : Nat → (List Int) → (List Int) → Int → Int → Option ((Unit × Unit) ⊕ (Unit × (Bool × Unit)))
  | 0, _, _, _, _ => none
  | n + 1, t0, t1, t12, t13 =>
    bif (decide (t13 < t12)) then (
     bif ((decide (0 ≤ t13)) && (decide (t13 < ((List.length t0 : Nat) : Int)))) then (
      bif ((decide (0 ≤ t13)) && (decide (t13 < ((List.length t1 : Nat) : Int)))) then (
       bif ((List.getD t0 (Int.toNat t13) 0) != (List.getD t1 (Int.toNat t13) 0)) then (
        some (Sum.inr ((), (false, ()))))
       else (
        (f16l0 N n t0 t1 t12 (IntKind.i64.wrap (t13 + 1))).bind some))
      else (
       none))
     else (
      none))
    else (
     some (Sum.inl ((), ())))
def f16l0L (N : Nat) : LoopE .unit := { blk := 0, pre := f16l0p, exits := f16l0x, wr := [4,5,13,14,15,16,17,18,19,20,21,22,23,24,25], F := fun x => f16l0 N N x.2.1 x.2.2.1 x.2.2.2.1 x.2.2.2.2.1 }
def f16F (N : Nat) (t0 : (List Int)) (t1 : (List Int)) : Option (Unit × (Bool × Unit)) :=
  bif (((List.length t0 : Nat) : Int) != ((List.length t1 : Nat) : Int)) then (
   some ((), (false, ())))
  else (
   (f16l0 N N t0 t1 ((List.length t0 : Nat) : Int) 0).bind fun y1 =>
   Sum.elim (fun u2 =>
     some ((), (true, ())))
    (fun w3 =>
     some ((), (w3.2.1, ()))) y1)
def f16e (N : Nat) : Entry := { f := 16, pre := f16p, post := f16o, F := fun x => f16F N x.2.1 x.2.2.1 }
noncomputable def f16E (N : Nat) : Env .unit := { P := Try.prog, globs := globs, funs := [], loops := [f16l0L N], ranges := [] }
theorem f16l0s (N : Nat) (n1 : Nat) (g : Unit) (t0 : (List Int)) (t1 : (List Int)) (t12 : Int) (t13 : Int) : runLoop (sT := .unit) (f16E N) (sumTy f16l0x) f16l0x (fun _ y => y) f16l0c f16l0p (fun _ x => f16l0 N n1 x.2.1 x.2.2.1 x.2.2.2.1 x.2.2.2.2.1) g ((), (t0, (t1, (t12, (t13, ()))))) = f16l0 N (n1 + 1) t0 t1 t12 t13 := by
  kernel_rfl
theorem f16l0ok (N : Nat) : LoopOk (f16E N) Try.prog f16l0c (f16l0L N) :=
  loopOk (L := f16l0L N) (f := fun n x => f16l0 N n x.2.1 x.2.2.1 x.2.2.2.1 x.2.2.2.2.1) (N := N) (LoopsOk.none (by kernel_rfl) (by kernel_rfl)) (by kernel_rfl) (by kernel_rfl) rfl rfl (fun _ => rfl) (fun n1 g x => f16l0s N n1 g x.2.1 x.2.2.1 x.2.2.2.1 x.2.2.2.2.1)
theorem f16q (N : Nat) (t0 : (List Int)) (t1 : (List Int)) : runFun (f16E N) f16o.ty f16o (fun _ y => y) Try.f16 f16p () ((), (t0, (t1, ()))) = f16F N t0 t1 := by
  kernel_rfl
theorem f16ok (N : Nat) : EntryOk Try.prog globs (f16e N) :=
  funOk (E := f16E N) (e := f16e N) (fn := Try.f16) (c := f16c) rfl (by kernel_rfl) (by kernel_rfl) (by kernel_rfl) (by kernel_rfl) rfl rfl (List.forall_mem_nil _) (LoopsOk.both (l := [(0, f16l0c)]) (r := []) (by kernel_rfl) (by kernel_rfl) (List.forall_mem_cons.2 ⟨LoopFor.of (L := f16l0L N) (by kernel_rfl) (f16l0ok N) (by kernel_rfl), (List.forall_mem_nil _)⟩) (List.forall_mem_nil _)) (by kernel_rfl) (by kernel_rfl) (by kernel_rfl) (fun x => f16q N x.2.1 x.2.2.1)

/-! f13: shawm/shawmlaw08.awake -/
abbrev f13p : Pat := ⟨[], []⟩
abbrev f13o : Pat := ⟨[], [(0, .dat .bool)]⟩
noncomputable def f13c : Code := (Try.f13.body).getD .skip
def f13F (N : Nat)  : Option (Unit × (Bool × Unit)) :=
  bif (true && (decide (15 < ((List.length (List.replicate 32 (0 : Int)) : Nat) : Int)))) then (
   bif (true && (decide (16 < ((List.length (List.set (List.replicate 32 (0 : Int)) 15 1000) : Nat) : Int)))) then (
    (f19F N (List.set (List.set (List.replicate 32 (0 : Int)) 15 1000) 16 1000) [16, 16]).bind fun y1 =>
    (f21F N y1.1.1 [16, 16]).bind fun y2 =>
    (f25F N [128, 16] 0).bind fun y3 =>
    (f14F N (List.set (List.set (List.replicate 32 (0 : Int)) 15 1000) 16 1000) [16, 16]).bind fun y4 =>
    (f17F N y4.1.1 [16, 16]).bind fun y5 =>
    (f23F N y4.1.1 [16, 16] 1 2).bind fun y6 =>
    bif (y1.2.2.1 == 0) then (
     bif (((List.length y1.1.1 : Nat) : Int) == 32) then (
      bif (y2.2.2.1 == 0) then (
       (f16F N y2.1.1 (List.set (List.set (List.replicate 32 (0 : Int)) 15 1000) 16 1000)).bind fun y7 =>
       bif y7.2.1 then (
        bif (y3.2.1 == 0) then (
         bif (y3.2.2.1 == 120) then (
          bif (y3.2.2.2.1 == 0) then (
           bif (y4.2.2.1 == 0) then (
            bif (y5.2.2.1 == 0) then (
             (f16F N y5.1.1 (List.set (List.set (List.replicate 32 (0 : Int)) 15 1000) 16 1000)).bind fun y8 =>
             bif y8.2.1 then (
              bif (y6.2.2.1 == 0) then (
               bif (((true && (decide (16 ≤ ((List.length (List.set (List.set (List.replicate 32 (0 : Int)) 15 1000) 16 1000) : Nat) : Int)))) && (decide (((List.length (List.set (List.set (List.replicate 32 (0 : Int)) 15 1000) 16 1000) : Nat) : Int) ≤ ((List.length (List.set (List.set (List.replicate 32 (0 : Int)) 15 1000) 16 1000) : Nat) : Int)))) && true) then (
                (f16F N y6.1.1 (cutAt 16 ((List.length (List.set (List.set (List.replicate 32 (0 : Int)) 15 1000) 16 1000)) - 16) (List.set (List.set (List.replicate 32 (0 : Int)) 15 1000) 16 1000))).bind fun y9 =>
                some ((), (y9.2.1, ())))
               else (
                none))
              else (
               some ((), (false, ()))))
             else (
              some ((), (false, ()))))
            else (
             some ((), (false, ()))))
           else (
            some ((), (false, ()))))
          else (
           some ((), (false, ()))))
         else (
          some ((), (false, ()))))
        else (
         some ((), (false, ()))))
       else (
        some ((), (false, ()))))
      else (
       some ((), (false, ()))))
     else (
      some ((), (false, ()))))
    else (
     some ((), (false, ()))))
   else (
    none))
  else (
   none)
def f13e (N : Nat) : Entry := { f := 13, pre := f13p, post := f13o, F := fun x => f13F N  }
noncomputable def f13E (N : Nat) : Env .unit := { P := Try.prog, globs := globs, funs := [f19e N, f21e N, f25e N, f14e N, f17e N, f23e N, f16e N], loops := [], ranges := [] }
theorem f13q (N : Nat)  : runFun (f13E N) f13o.ty f13o (fun _ y => y) Try.f13 f13p () ((), ()) = f13F N  := by
  kernel_rfl
theorem f13ok (N : Nat) : EntryOk Try.prog globs (f13e N) :=
  funOk (E := f13E N) (e := f13e N) (fn := Try.f13) (c := f13c) rfl (by kernel_rfl) (by kernel_rfl) (by kernel_rfl) (by kernel_rfl) rfl rfl (List.forall_mem_cons.2 ⟨f19ok N, (List.forall_mem_cons.2 ⟨f21ok N, (List.forall_mem_cons.2 ⟨f25ok N, (List.forall_mem_cons.2 ⟨f14ok N, (List.forall_mem_cons.2 ⟨f17ok N, (List.forall_mem_cons.2 ⟨f23ok N, (List.forall_mem_cons.2 ⟨f16ok N, (List.forall_mem_nil _)⟩)⟩)⟩)⟩)⟩)⟩)⟩) (LoopsOk.none (by kernel_rfl) (by kernel_rfl)) (by kernel_rfl) (by kernel_rfl) (by kernel_rfl) (fun x => f13q N )

/-! f39: shawm/shawmref08.errors -/
abbrev f39p : Pat := ⟨[], [(0, .dat (.list I)), (1, .dat (.list I))]⟩
abbrev f39o : Pat := ⟨[], [(0, .dat I)]⟩
noncomputable def f39c : Code := (Try.f39.body).getD .skip
def f39F (N : Nat) (t0 : (List Int)) (t1 : (List Int)) : Option (Unit × (Int × Unit)) :=
  (f27F N t1).bind fun y1 =>
  bif (!y1.2.1) then (
   some ((), (1, ())))
  else (
   (f28F N t1).bind fun y2 =>
   bif (((List.length t0 : Nat) : Int) != y2.2.1) then (
    some ((), (4, ())))
   else (
    some ((), (0, ()))))
def f39e (N : Nat) : Entry := { f := 39, pre := f39p, post := f39o, F := fun x => f39F N x.2.1 x.2.2.1 }
noncomputable def f39E (N : Nat) : Env .unit := { P := Try.prog, globs := globs, funs := [f27e N, f28e N], loops := [], ranges := [] }
theorem f39q (N : Nat) (t0 : (List Int)) (t1 : (List Int)) : runFun (f39E N) f39o.ty f39o (fun _ y => y) Try.f39 f39p () ((), (t0, (t1, ()))) = f39F N t0 t1 := by
  kernel_rfl
theorem f39ok (N : Nat) : EntryOk Try.prog globs (f39e N) :=
  funOk (E := f39E N) (e := f39e N) (fn := Try.f39) (c := f39c) rfl (by kernel_rfl) (by kernel_rfl) (by kernel_rfl) (by kernel_rfl) rfl rfl (List.forall_mem_cons.2 ⟨f27ok N, (List.forall_mem_cons.2 ⟨f28ok N, (List.forall_mem_nil _)⟩)⟩) (LoopsOk.none (by kernel_rfl) (by kernel_rfl)) (by kernel_rfl) (by kernel_rfl) (by kernel_rfl) (fun x => f39q N x.2.1 x.2.2.1)

/-! f45: shawm/shawmref06.within -/
abbrev f45p : Pat := ⟨[], [(0, .dat I), (1, .dat (.list I))]⟩
abbrev f45o : Pat := ⟨[], [(0, .dat .bool)]⟩
noncomputable def f45c : Code := (Try.f45.body).getD .skip
noncomputable def f45l0c : Code := (((loopsIn 0 f45c)[0]?).map (·.2)).getD .skip
abbrev f45l0p : Pat := ⟨[], [(0, .dat I), (7, .dat (.list I)), (8, .dat I), (9, .dat I)]⟩
abbrev f45l0x : List (Ex × Pat) := [(.exit 0, ⟨[], []⟩), (.ret, ⟨[], [(4, .dat .bool)]⟩)]
def f45l0 (N : Nat) : Nat → Int → (List Int) → Int → Int → Option ((Unit × Unit) ⊕ (Unit × (Bool × Unit)))
  | 0, _, _, _, _ => none
  | n + 1, t0, t7, t8, t9 =>
    bif (decide (t9 < t8)) then (
     bif ((decide (0 ≤ t9)) && (decide (t9 < ((List.length t7 : Nat) : Int)))) then (
      bif (decide ((List.getD t7 (Int.toNat t9) 0) < (IntKind.i64.wrap (0 - t0)))) then (
       some (Sum.inr ((), (false, ()))))
      else (
       bif (decide (t0 < (List.getD t7 (Int.toNat t9) 0))) then (
        some (Sum.inr ((), (false, ()))))
       else (
        (f45l0 N n t0 t7 t8 (IntKind.i64.wrap (t9 + 1))).bind some)))
     else (
      none))
    else (
     some (Sum.inl ((), ())))
def f45l0L (N : Nat) : LoopE .unit := { blk := 0, pre := f45l0p, exits := f45l0x, wr := [4,6,9,10,11,12,13,14,15,16,17,18,19,20,21,22], F := fun x => f45l0 N N x.2.1 x.2.2.1 x.2.2.2.1 x.2.2.2.2.1 }
def f45F (N : Nat) (t0 : Int) (t1 : (List Int)) : Option (Unit × (Bool × Unit)) :=
  (f45l0 N N t0 t1 ((List.length t1 : Nat) : Int) 0).bind fun y1 =>
  Sum.elim (fun u2 =>
    some ((), (true, ())))
   (fun w3 =>
    some ((), (w3.2.1, ()))) y1
def f45e (N : Nat) : Entry := { f := 45, pre := f45p, post := f45o, F := fun x => f45F N x.2.1 x.2.2.1 }
noncomputable def f45E (N : Nat) : Env .unit := { P := Try.prog, globs := globs, funs := [], loops := [f45l0L N], ranges := [] }
theorem f45l0s (N : Nat) (n1 : Nat) (g : Unit) (t0 : Int) (t7 : (List Int)) (t8 : Int) (t9 : Int) : runLoop (sT := .unit) (f45E N) (sumTy f45l0x) f45l0x (fun _ y => y) f45l0c f45l0p (fun _ x => f45l0 N n1 x.2.1 x.2.2.1 x.2.2.2.1 x.2.2.2.2.1) g ((), (t0, (t7, (t8, (t9, ()))))) = f45l0 N (n1 + 1) t0 t7 t8 t9 := by
  kernel_rfl
theorem f45l0ok (N : Nat) : LoopOk (f45E N) Try.prog f45l0c (f45l0L N) :=
  loopOk (L := f45l0L N) (f := fun n x => f45l0 N n x.2.1 x.2.2.1 x.2.2.2.1 x.2.2.2.2.1) (N := N) (LoopsOk.none (by kernel_rfl) (by kernel_rfl)) (by kernel_rfl) (by kernel_rfl) rfl rfl (fun _ => rfl) (fun n1 g x => f45l0s N n1 g x.2.1 x.2.2.1 x.2.2.2.1 x.2.2.2.2.1)
theorem f45q (N : Nat) (t0 : Int) (t1 : (List Int)) : runFun (f45E N) f45o.ty f45o (fun _ y => y) Try.f45 f45p () ((), (t0, (t1, ()))) = f45F N t0 t1 := by
  kernel_rfl
theorem f45ok (N : Nat) : EntryOk Try.prog globs (f45e N) :=
  funOk (E := f45E N) (e := f45e N) (fn := Try.f45) (c := f45c) rfl (by kernel_rfl) (by kernel_rfl) (by kernel_rfl) (by kernel_rfl) rfl rfl (List.forall_mem_nil _) (LoopsOk.both (l := [(0, f45l0c)]) (r := []) (by kernel_rfl) (by kernel_rfl) (List.forall_mem_cons.2 ⟨LoopFor.of (L := f45l0L N) (by kernel_rfl) (f45l0ok N) (by kernel_rfl), (List.forall_mem_nil _)⟩) (List.forall_mem_nil _)) (by kernel_rfl) (by kernel_rfl) (by kernel_rfl) (fun x => f45q N x.2.1 x.2.2.1)

/-! f29: shawm/shawmref06.Within -/
abbrev f29p : Pat := ⟨[], [(0, .dat I), (1, .dat (.list I))]⟩
abbrev f29o : Pat := ⟨[], [(0, .dat .bool)]⟩
noncomputable def f29c : Code := (Try.f29.body).getD .skip
def f29F (N : Nat) (t0 : Int) (t1 : (List Int)) : Option (Unit × (Bool × Unit)) :=
  (f45F N t0 t1).bind fun y1 =>
  some ((), (y1.2.1, ()))
def f29e (N : Nat) : Entry := { f := 29, pre := f29p, post := f29o, F := fun x => f29F N x.2.1 x.2.2.1 }
noncomputable def f29E (N : Nat) : Env .unit := { P := Try.prog, globs := globs, funs := [f45e N], loops := [], ranges := [] }
theorem f29q (N : Nat) (t0 : Int) (t1 : (List Int)) : runFun (f29E N) f29o.ty f29o (fun _ y => y) Try.f29 f29p () ((), (t0, (t1, ()))) = f29F N t0 t1 := by
  kernel_rfl
theorem f29ok (N : Nat) : EntryOk Try.prog globs (f29e N) :=
  funOk (E := f29E N) (e := f29e N) (fn := Try.f29) (c := f29c) rfl (by kernel_rfl) (by kernel_rfl) (by kernel_rfl) (by kernel_rfl) rfl rfl (List.forall_mem_cons.2 ⟨f45ok N, (List.forall_mem_nil _)⟩) (LoopsOk.none (by kernel_rfl) (by kernel_rfl)) (by kernel_rfl) (by kernel_rfl) (by kernel_rfl) (fun x => f29q N x.2.1 x.2.2.1)

/-! f76: shawm/shawmref03.Down -/
abbrev f76p : Pat := ⟨[], [(0, .dat I), (1, .dat I)]⟩
abbrev f76o : Pat := ⟨[], [(0, .dat I)]⟩
noncomputable def f76c : Code := (Try.f76.body).getD .skip
def f76F (N : Nat) (t0 : Int) (t1 : Int) : Option (Unit × (Int × Unit)) :=
  bif (!(t1 == 0)) then (
   bif (!(t1 == 0)) then (
    bif (decide ((Int.tmod t0 t1) < 0)) then (
     some ((), ((IntKind.i64.wrap ((IntKind.i64.wrap (Int.tdiv t0 t1)) - 1)), ())))
    else (
     some ((), ((IntKind.i64.wrap (Int.tdiv t0 t1)), ()))))
   else (
    none))
  else (
   none)
def f76e (N : Nat) : Entry := { f := 76, pre := f76p, post := f76o, F := fun x => f76F N x.2.1 x.2.2.1 }
noncomputable def f76E (N : Nat) : Env .unit := { P := Try.prog, globs := globs, funs := [], loops := [], ranges := [] }
theorem f76q (N : Nat) (t0 : Int) (t1 : Int) : runFun (f76E N) f76o.ty f76o (fun _ y => y) Try.f76 f76p () ((), (t0, (t1, ()))) = f76F N t0 t1 := by
  kernel_rfl
theorem f76ok (N : Nat) : EntryOk Try.prog globs (f76e N) :=
  funOk (E := f76E N) (e := f76e N) (fn := Try.f76) (c := f76c) rfl (by kernel_rfl) (by kernel_rfl) (by kernel_rfl) (by kernel_rfl) rfl rfl (List.forall_mem_nil _) (LoopsOk.none (by kernel_rfl) (by kernel_rfl)) (by kernel_rfl) (by kernel_rfl) (by kernel_rfl) (fun x => f76q N x.2.1 x.2.2.1)

/-! f95: shawm/shawmref03.power -/
abbrev f95p : Pat := ⟨[], [(0, .dat I), (1, .dat I)]⟩
abbrev f95o : Pat := ⟨[], [(0, .dat .bool)]⟩
noncomputable def f95c : Code := (Try.f95.body).getD .skip
noncomputable def f95l0c : Code := (((loopsIn 0 f95c)[0]?).map (·.2)).getD .skip
abbrev f95l0p : Pat := ⟨[], [(0, .dat I), (1, .dat I), (5, .dat I)]⟩
abbrev f95l0x : List (Ex × Pat) := [(.exit 0, ⟨[], []⟩), (.ret, ⟨[], [(4, .dat .bool)]⟩)]
def f95l0 (N : Nat) : Nat → Int → Int → Int → Option ((Unit × Unit) ⊕ (Unit × (Bool × Unit)))
  | 0, _, _, _ => none
  | n + 1, t0, t1, t5 =>
    bif (decide (t5 ≤ t1)) then (
     bif (t0 == t5) then (
      some (Sum.inr ((), (true, ()))))
     else (
      (f95l0 N n t0 t1 (IntKind.i64.wrap (t5 * 2))).bind some))
    else (
     some (Sum.inl ((), ())))
def f95l0L (N : Nat) : LoopE .unit := { blk := 0, pre := f95l0p, exits := f95l0x, wr := [4,5,6,7,8,9,10,11,12,13], F := fun x => f95l0 N N x.2.1 x.2.2.1 x.2.2.2.1 }
def f95F (N : Nat) (t0 : Int) (t1 : Int) : Option (Unit × (Bool × Unit)) :=
  (f95l0 N N t0 t1 1).bind fun y1 =>
  Sum.elim (fun u2 =>
    some ((), (false, ())))
   (fun w3 =>
    some ((), (w3.2.1, ()))) y1
def f95e (N : Nat) : Entry := { f := 95, pre := f95p, post := f95o, F := fun x => f95F N x.2.1 x.2.2.1 }
noncomputable def f95E (N : Nat) : Env .unit := { P := Try.prog, globs := globs, funs := [], loops := [f95l0L N], ranges := [] }
theorem f95l0s (N : Nat) (n1 : Nat) (g : Unit) (t0 : Int) (t1 : Int) (t5 : Int) : runLoop (sT := .unit) (f95E N) (sumTy f95l0x) f95l0x (fun _ y => y) f95l0c f95l0p (fun _ x => f95l0 N n1 x.2.1 x.2.2.1 x.2.2.2.1) g ((), (t0, (t1, (t5, ())))) = f95l0 N (n1 + 1) t0 t1 t5 := by
  kernel_rfl
theorem f95l0ok (N : Nat) : LoopOk (f95E N) Try.prog f95l0c (f95l0L N) :=
  loopOk (L := f95l0L N) (f := fun n x => f95l0 N n x.2.1 x.2.2.1 x.2.2.2.1) (N := N) (LoopsOk.none (by kernel_rfl) (by kernel_rfl)) (by kernel_rfl) (by kernel_rfl) rfl rfl (fun _ => rfl) (fun n1 g x => f95l0s N n1 g x.2.1 x.2.2.1 x.2.2.2.1)
theorem f95q (N : Nat) (t0 : Int) (t1 : Int) : runFun (f95E N) f95o.ty f95o (fun _ y => y) Try.f95 f95p () ((), (t0, (t1, ()))) = f95F N t0 t1 := by
  kernel_rfl
theorem f95ok (N : Nat) : EntryOk Try.prog globs (f95e N) :=
  funOk (E := f95E N) (e := f95e N) (fn := Try.f95) (c := f95c) rfl (by kernel_rfl) (by kernel_rfl) (by kernel_rfl) (by kernel_rfl) rfl rfl (List.forall_mem_nil _) (LoopsOk.both (l := [(0, f95l0c)]) (r := []) (by kernel_rfl) (by kernel_rfl) (List.forall_mem_cons.2 ⟨LoopFor.of (L := f95l0L N) (by kernel_rfl) (f95l0ok N) (by kernel_rfl), (List.forall_mem_nil _)⟩) (List.forall_mem_nil _)) (by kernel_rfl) (by kernel_rfl) (by kernel_rfl) (fun x => f95q N x.2.1 x.2.2.1)

/-! f89: shawm/shawmref03.angle -/
abbrev f89p : Pat := ⟨[], [(0, .dat I), (1, .dat I)]⟩
abbrev f89o : Pat := ⟨[], [(0, .dat I)]⟩
noncomputable def f89c : Code := (Try.f89.body).getD .skip
def f89F (N : Nat) (t0 : Int) (t1 : Int) : Option (Unit × (Int × Unit)) :=
  (f95F N t1 16384).bind fun y1 =>
  bif (!y1.2.1) then (
   some ((), (1, ())))
  else (
   bif (decide (t0 < (-1099511627776))) then (
    some ((), (6, ())))
   else (
    bif (decide (1099511627776 < t0)) then (
     some ((), (6, ())))
    else (
     some ((), (0, ())))))
def f89e (N : Nat) : Entry := { f := 89, pre := f89p, post := f89o, F := fun x => f89F N x.2.1 x.2.2.1 }
noncomputable def f89E (N : Nat) : Env .unit := { P := Try.prog, globs := globs, funs := [f95e N], loops := [], ranges := [] }
theorem f89q (N : Nat) (t0 : Int) (t1 : Int) : runFun (f89E N) f89o.ty f89o (fun _ y => y) Try.f89 f89p () ((), (t0, (t1, ()))) = f89F N t0 t1 := by
  kernel_rfl
theorem f89ok (N : Nat) : EntryOk Try.prog globs (f89e N) :=
  funOk (E := f89E N) (e := f89e N) (fn := Try.f89) (c := f89c) rfl (by kernel_rfl) (by kernel_rfl) (by kernel_rfl) (by kernel_rfl) rfl rfl (List.forall_mem_cons.2 ⟨f95ok N, (List.forall_mem_nil _)⟩) (LoopsOk.none (by kernel_rfl) (by kernel_rfl)) (by kernel_rfl) (by kernel_rfl) (by kernel_rfl) (fun x => f89q N x.2.1 x.2.2.1)

/-! f100: shawm/shawmref03.product -/
abbrev f100p : Pat := ⟨[], [(0, .dat I), (1, .dat I)]⟩
abbrev f100o : Pat := ⟨[], [(0, .dat I)]⟩
noncomputable def f100c : Code := (Try.f100.body).getD .skip
def f100F (N : Nat) (t0 : Int) (t1 : Int) : Option (Unit × (Int × Unit)) :=
  some ((), ((IntKind.i64.wrap ((IntKind.i64.wrap ((IntKind.i64.wrap (Int.tdiv t0 1073741824)) * (IntKind.i64.wrap (Int.tdiv t1 1073741824)))) + (IntKind.i64.wrap (Int.tdiv (IntKind.i64.wrap ((IntKind.i64.wrap ((IntKind.i64.wrap ((IntKind.i64.wrap (Int.tdiv t0 1073741824)) * (Int.tmod t1 1073741824))) + (IntKind.i64.wrap ((Int.tmod t0 1073741824) * (IntKind.i64.wrap (Int.tdiv t1 1073741824)))))) + (IntKind.i64.wrap (Int.tdiv (IntKind.i64.wrap ((Int.tmod t0 1073741824) * (Int.tmod t1 1073741824))) 1073741824)))) 1073741824)))), ()))
def f100e (N : Nat) : Entry := { f := 100, pre := f100p, post := f100o, F := fun x => f100F N x.2.1 x.2.2.1 }
noncomputable def f100E (N : Nat) : Env .unit := { P := Try.prog, globs := globs, funs := [], loops := [], ranges := [] }
theorem f100q (N : Nat) (t0 : Int) (t1 : Int) : runFun (f100E N) f100o.ty f100o (fun _ y => y) Try.f100 f100p () ((), (t0, (t1, ()))) = f100F N t0 t1 := by
  kernel_rfl
theorem f100ok (N : Nat) : EntryOk Try.prog globs (f100e N) :=
  funOk (E := f100E N) (e := f100e N) (fn := Try.f100) (c := f100c) rfl (by kernel_rfl) (by kernel_rfl) (by kernel_rfl) (by kernel_rfl) rfl rfl (List.forall_mem_nil _) (LoopsOk.none (by kernel_rfl) (by kernel_rfl)) (by kernel_rfl) (by kernel_rfl) (by kernel_rfl) (fun x => f100q N x.2.1 x.2.2.1)

/-! f96: shawm/shawmref03.series -/
abbrev f96p : Pat := ⟨[], [(0, .dat I), (1, .dat I), (2, .dat I)]⟩
abbrev f96o : Pat := ⟨[], [(0, .dat I)]⟩
noncomputable def f96c : Code := (Try.f96.body).getD .skip
noncomputable def f96l0c : Code := (((loopsIn 0 f96c)[0]?).map (·.2)).getD .skip
abbrev f96l0p : Pat := ⟨[], [(1, .dat I), (2, .dat I), (7, .dat I), (8, .dat I), (9, .dat I)]⟩
abbrev f96l0x : List (Ex × Pat) := [(.exit 0, ⟨[], [(7, .dat I)]⟩)]
def f96l0 (N : Nat) : Nat → Int → Int → Int → Int → Int → Option (Unit × (Int × Unit))
  | 0, _, _, _, _, _ => none
  | n + 1, t1, t2, t7, t8, t9 =>
    bif (decide (0 < t9)) then (
     (f100F N t9 t2).bind fun y1 =>
     (f100F N y1.2.1 t2).bind fun y2 =>
     bif (!((IntKind.i64.wrap ((IntKind.i64.wrap (t1 + 1)) * (IntKind.i64.wrap (t1 + 2)))) == 0)) then (
      (f96l0 N n (IntKind.i64.wrap (t1 + 2)) t2 (IntKind.i64.wrap (t7 + (IntKind.i64.wrap (t8 * t9)))) (IntKind.i64.wrap (0 - t8)) (IntKind.i64.wrap (Int.tdiv y2.2.1 (IntKind.i64.wrap ((IntKind.i64.wrap (t1 + 1)) * (IntKind.i64.wrap (t1 + 2))))))).bind some)
     else (
      none))
    else (
     some ((), (t7, ())))
def f96l0L (N : Nat) : LoopE .unit := { blk := 0, pre := f96l0p, exits := f96l0x, wr := [1,7,8,9,11,12,13,14,15,16,17,18,19,20,21,22,23,24,25,26,27,28,29,30,31,32], F := fun x => f96l0 N N x.2.1 x.2.2.1 x.2.2.2.1 x.2.2.2.2.1 x.2.2.2.2.2.1 }
def f96F (N : Nat) (t0 : Int) (t1 : Int) (t2 : Int) : Option (Unit × (Int × Unit)) :=
  (f96l0 N N t1 t2 0 1 t0).bind fun y3 =>
  some ((), (y3.2.1, ()))
def f96e (N : Nat) : Entry := { f := 96, pre := f96p, post := f96o, F := fun x => f96F N x.2.1 x.2.2.1 x.2.2.2.1 }
noncomputable def f96E (N : Nat) : Env .unit := { P := Try.prog, globs := globs, funs := [f100e N], loops := [f96l0L N], ranges := [] }
theorem f96l0s (N : Nat) (n1 : Nat) (g : Unit) (t1 : Int) (t2 : Int) (t7 : Int) (t8 : Int) (t9 : Int) : runLoop (sT := .unit) (f96E N) (sumTy f96l0x) f96l0x (fun _ y => y) f96l0c f96l0p (fun _ x => f96l0 N n1 x.2.1 x.2.2.1 x.2.2.2.1 x.2.2.2.2.1 x.2.2.2.2.2.1) g ((), (t1, (t2, (t7, (t8, (t9, ())))))) = f96l0 N (n1 + 1) t1 t2 t7 t8 t9 := by
  kernel_rfl
theorem f96l0ok (N : Nat) : LoopOk (f96E N) Try.prog f96l0c (f96l0L N) :=
  loopOk (L := f96l0L N) (f := fun n x => f96l0 N n x.2.1 x.2.2.1 x.2.2.2.1 x.2.2.2.2.1 x.2.2.2.2.2.1) (N := N) (LoopsOk.none (by kernel_rfl) (by kernel_rfl)) (by kernel_rfl) (by kernel_rfl) rfl rfl (fun _ => rfl) (fun n1 g x => f96l0s N n1 g x.2.1 x.2.2.1 x.2.2.2.1 x.2.2.2.2.1 x.2.2.2.2.2.1)
theorem f96q (N : Nat) (t0 : Int) (t1 : Int) (t2 : Int) : runFun (f96E N) f96o.ty f96o (fun _ y => y) Try.f96 f96p () ((), (t0, (t1, (t2, ())))) = f96F N t0 t1 t2 := by
  kernel_rfl
theorem f96ok (N : Nat) : EntryOk Try.prog globs (f96e N) :=
  funOk (E := f96E N) (e := f96e N) (fn := Try.f96) (c := f96c) rfl (by kernel_rfl) (by kernel_rfl) (by kernel_rfl) (by kernel_rfl) rfl rfl (List.forall_mem_cons.2 ⟨f100ok N, (List.forall_mem_nil _)⟩) (LoopsOk.both (l := [(0, f96l0c)]) (r := []) (by kernel_rfl) (by kernel_rfl) (List.forall_mem_cons.2 ⟨LoopFor.of (L := f96l0L N) (by kernel_rfl) (f96l0ok N) (by kernel_rfl), (List.forall_mem_nil _)⟩) (List.forall_mem_nil _)) (by kernel_rfl) (by kernel_rfl) (by kernel_rfl) (fun x => f96q N x.2.1 x.2.2.1 x.2.2.2.1)

/-! f90: shawm/shawmref03.circle -/
abbrev f90p : Pat := ⟨[], [(0, .dat I), (1, .dat I)]⟩
abbrev f90o : Pat := ⟨[], [(0, .dat I), (1, .dat I)]⟩
noncomputable def f90c : Code := (Try.f90.body).getD .skip
def f90F (N : Nat) (t0 : Int) (t1 : Int) : Option (Unit × (Int × (Int × Unit))) :=
  (f76F N t0 t1).bind fun y1 =>
  bif (!(t1 == 0)) then (
   bif (!(t1 == 0)) then (
    bif ((Int.tmod (IntKind.i64.wrap (Int.tdiv (IntKind.i64.wrap (8 * (IntKind.i64.wrap (t0 - (IntKind.i64.wrap (y1.2.1 * t1)))))) t1)) 2) == 1) then (
     bif (!(t1 == 0)) then (
      bif (!(t1 == 0)) then (
       bif (!(t1 == 0)) then (
        (f96F N (IntKind.i64.wrap ((IntKind.i64.wrap ((IntKind.i64.wrap (Int.tdiv 905502432259640355 t1)) * (IntKind.i64.wrap (t1 - (Int.tmod (IntKind.i64.wrap (8 * (IntKind.i64.wrap (t0 - (IntKind.i64.wrap (y1.2.1 * t1)))))) t1))))) + (IntKind.i64.wrap (Int.tdiv (IntKind.i64.wrap ((Int.tmod 905502432259640355 t1) * (IntKind.i64.wrap (t1 - (Int.tmod (IntKind.i64.wrap (8 * (IntKind.i64.wrap (t0 - (IntKind.i64.wrap (y1.2.1 * t1)))))) t1))))) t1)))) 1 (IntKind.i64.wrap ((IntKind.i64.wrap ((IntKind.i64.wrap (Int.tdiv 905502432259640355 t1)) * (IntKind.i64.wrap (t1 - (Int.tmod (IntKind.i64.wrap (8 * (IntKind.i64.wrap (t0 - (IntKind.i64.wrap (y1.2.1 * t1)))))) t1))))) + (IntKind.i64.wrap (Int.tdiv (IntKind.i64.wrap ((Int.tmod 905502432259640355 t1) * (IntKind.i64.wrap (t1 - (Int.tmod (IntKind.i64.wrap (8 * (IntKind.i64.wrap (t0 - (IntKind.i64.wrap (y1.2.1 * t1)))))) t1))))) t1))))).bind fun y2 =>
        (f96F N 1152921504606846976 0 (IntKind.i64.wrap ((IntKind.i64.wrap ((IntKind.i64.wrap (Int.tdiv 905502432259640355 t1)) * (IntKind.i64.wrap (t1 - (Int.tmod (IntKind.i64.wrap (8 * (IntKind.i64.wrap (t0 - (IntKind.i64.wrap (y1.2.1 * t1)))))) t1))))) + (IntKind.i64.wrap (Int.tdiv (IntKind.i64.wrap ((Int.tmod 905502432259640355 t1) * (IntKind.i64.wrap (t1 - (Int.tmod (IntKind.i64.wrap (8 * (IntKind.i64.wrap (t0 - (IntKind.i64.wrap (y1.2.1 * t1)))))) t1))))) t1))))).bind fun y3 =>
        bif ((Int.tmod (IntKind.i64.wrap (Int.tdiv (IntKind.i64.wrap (8 * (IntKind.i64.wrap (t0 - (IntKind.i64.wrap (y1.2.1 * t1)))))) t1)) 4) == 1) then (
         bif ((IntKind.i64.wrap (Int.tdiv (IntKind.i64.wrap (Int.tdiv (IntKind.i64.wrap (8 * (IntKind.i64.wrap (t0 - (IntKind.i64.wrap (y1.2.1 * t1)))))) t1)) 2)) == 1) then (
          some ((), (y3.2.1, ((IntKind.i64.wrap (0 - y2.2.1)), ()))))
         else (
          bif ((IntKind.i64.wrap (Int.tdiv (IntKind.i64.wrap (Int.tdiv (IntKind.i64.wrap (8 * (IntKind.i64.wrap (t0 - (IntKind.i64.wrap (y1.2.1 * t1)))))) t1)) 2)) == 2) then (
           some ((), ((IntKind.i64.wrap (0 - y3.2.1)), ((IntKind.i64.wrap (0 - y2.2.1)), ()))))
          else (
           bif ((IntKind.i64.wrap (Int.tdiv (IntKind.i64.wrap (Int.tdiv (IntKind.i64.wrap (8 * (IntKind.i64.wrap (t0 - (IntKind.i64.wrap (y1.2.1 * t1)))))) t1)) 2)) == 3) then (
            some ((), ((IntKind.i64.wrap (0 - y3.2.1)), (y2.2.1, ()))))
           else (
            some ((), (y3.2.1, (y2.2.1, ())))))))
        else (
         bif ((Int.tmod (IntKind.i64.wrap (Int.tdiv (IntKind.i64.wrap (8 * (IntKind.i64.wrap (t0 - (IntKind.i64.wrap (y1.2.1 * t1)))))) t1)) 4) == 2) then (
          bif ((IntKind.i64.wrap (Int.tdiv (IntKind.i64.wrap (Int.tdiv (IntKind.i64.wrap (8 * (IntKind.i64.wrap (t0 - (IntKind.i64.wrap (y1.2.1 * t1)))))) t1)) 2)) == 1) then (
           some ((), (y3.2.1, ((IntKind.i64.wrap (0 - y2.2.1)), ()))))
          else (
           bif ((IntKind.i64.wrap (Int.tdiv (IntKind.i64.wrap (Int.tdiv (IntKind.i64.wrap (8 * (IntKind.i64.wrap (t0 - (IntKind.i64.wrap (y1.2.1 * t1)))))) t1)) 2)) == 2) then (
            some ((), ((IntKind.i64.wrap (0 - y3.2.1)), ((IntKind.i64.wrap (0 - y2.2.1)), ()))))
           else (
            bif ((IntKind.i64.wrap (Int.tdiv (IntKind.i64.wrap (Int.tdiv (IntKind.i64.wrap (8 * (IntKind.i64.wrap (t0 - (IntKind.i64.wrap (y1.2.1 * t1)))))) t1)) 2)) == 3) then (
             some ((), ((IntKind.i64.wrap (0 - y3.2.1)), (y2.2.1, ()))))
            else (
             some ((), (y3.2.1, (y2.2.1, ())))))))
         else (
          bif ((IntKind.i64.wrap (Int.tdiv (IntKind.i64.wrap (Int.tdiv (IntKind.i64.wrap (8 * (IntKind.i64.wrap (t0 - (IntKind.i64.wrap (y1.2.1 * t1)))))) t1)) 2)) == 1) then (
           some ((), (y2.2.1, ((IntKind.i64.wrap (0 - y3.2.1)), ()))))
          else (
           bif ((IntKind.i64.wrap (Int.tdiv (IntKind.i64.wrap (Int.tdiv (IntKind.i64.wrap (8 * (IntKind.i64.wrap (t0 - (IntKind.i64.wrap (y1.2.1 * t1)))))) t1)) 2)) == 2) then (
            some ((), ((IntKind.i64.wrap (0 - y2.2.1)), ((IntKind.i64.wrap (0 - y3.2.1)), ()))))
           else (
            bif ((IntKind.i64.wrap (Int.tdiv (IntKind.i64.wrap (Int.tdiv (IntKind.i64.wrap (8 * (IntKind.i64.wrap (t0 - (IntKind.i64.wrap (y1.2.1 * t1)))))) t1)) 2)) == 3) then (
             some ((), ((IntKind.i64.wrap (0 - y2.2.1)), (y3.2.1, ()))))
            else (
             some ((), (y2.2.1, (y3.2.1, ())))))))))
       else (
        none))
      else (
       none))
     else (
      none))
    else (
     bif (!(t1 == 0)) then (
      bif (!(t1 == 0)) then (
       bif (!(t1 == 0)) then (
        (f96F N (IntKind.i64.wrap ((IntKind.i64.wrap ((IntKind.i64.wrap (Int.tdiv 905502432259640355 t1)) * (Int.tmod (IntKind.i64.wrap (8 * (IntKind.i64.wrap (t0 - (IntKind.i64.wrap (y1.2.1 * t1)))))) t1))) + (IntKind.i64.wrap (Int.tdiv (IntKind.i64.wrap ((Int.tmod 905502432259640355 t1) * (Int.tmod (IntKind.i64.wrap (8 * (IntKind.i64.wrap (t0 - (IntKind.i64.wrap (y1.2.1 * t1)))))) t1))) t1)))) 1 (IntKind.i64.wrap ((IntKind.i64.wrap ((IntKind.i64.wrap (Int.tdiv 905502432259640355 t1)) * (Int.tmod (IntKind.i64.wrap (8 * (IntKind.i64.wrap (t0 - (IntKind.i64.wrap (y1.2.1 * t1)))))) t1))) + (IntKind.i64.wrap (Int.tdiv (IntKind.i64.wrap ((Int.tmod 905502432259640355 t1) * (Int.tmod (IntKind.i64.wrap (8 * (IntKind.i64.wrap (t0 - (IntKind.i64.wrap (y1.2.1 * t1)))))) t1))) t1))))).bind fun y4 =>
        (f96F N 1152921504606846976 0 (IntKind.i64.wrap ((IntKind.i64.wrap ((IntKind.i64.wrap (Int.tdiv 905502432259640355 t1)) * (Int.tmod (IntKind.i64.wrap (8 * (IntKind.i64.wrap (t0 - (IntKind.i64.wrap (y1.2.1 * t1)))))) t1))) + (IntKind.i64.wrap (Int.tdiv (IntKind.i64.wrap ((Int.tmod 905502432259640355 t1) * (Int.tmod (IntKind.i64.wrap (8 * (IntKind.i64.wrap (t0 - (IntKind.i64.wrap (y1.2.1 * t1)))))) t1))) t1))))).bind fun y5 =>
        bif ((Int.tmod (IntKind.i64.wrap (Int.tdiv (IntKind.i64.wrap (8 * (IntKind.i64.wrap (t0 - (IntKind.i64.wrap (y1.2.1 * t1)))))) t1)) 4) == 1) then (
         bif ((IntKind.i64.wrap (Int.tdiv (IntKind.i64.wrap (Int.tdiv (IntKind.i64.wrap (8 * (IntKind.i64.wrap (t0 - (IntKind.i64.wrap (y1.2.1 * t1)))))) t1)) 2)) == 1) then (
          some ((), (y5.2.1, ((IntKind.i64.wrap (0 - y4.2.1)), ()))))
         else (
          bif ((IntKind.i64.wrap (Int.tdiv (IntKind.i64.wrap (Int.tdiv (IntKind.i64.wrap (8 * (IntKind.i64.wrap (t0 - (IntKind.i64.wrap (y1.2.1 * t1)))))) t1)) 2)) == 2) then (
           some ((), ((IntKind.i64.wrap (0 - y5.2.1)), ((IntKind.i64.wrap (0 - y4.2.1)), ()))))
          else (
           bif ((IntKind.i64.wrap (Int.tdiv (IntKind.i64.wrap (Int.tdiv (IntKind.i64.wrap (8 * (IntKind.i64.wrap (t0 - (IntKind.i64.wrap (y1.2.1 * t1)))))) t1)) 2)) == 3) then (
            some ((), ((IntKind.i64.wrap (0 - y5.2.1)), (y4.2.1, ()))))
           else (
            some ((), (y5.2.1, (y4.2.1, ())))))))
        else (
         bif ((Int.tmod (IntKind.i64.wrap (Int.tdiv (IntKind.i64.wrap (8 * (IntKind.i64.wrap (t0 - (IntKind.i64.wrap (y1.2.1 * t1)))))) t1)) 4) == 2) then (
          bif ((IntKind.i64.wrap (Int.tdiv (IntKind.i64.wrap (Int.tdiv (IntKind.i64.wrap (8 * (IntKind.i64.wrap (t0 - (IntKind.i64.wrap (y1.2.1 * t1)))))) t1)) 2)) == 1) then (
           some ((), (y5.2.1, ((IntKind.i64.wrap (0 - y4.2.1)), ()))))
          else (
           bif ((IntKind.i64.wrap (Int.tdiv (IntKind.i64.wrap (Int.tdiv (IntKind.i64.wrap (8 * (IntKind.i64.wrap (t0 - (IntKind.i64.wrap (y1.2.1 * t1)))))) t1)) 2)) == 2) then (
            some ((), ((IntKind.i64.wrap (0 - y5.2.1)), ((IntKind.i64.wrap (0 - y4.2.1)), ()))))
           else (
            bif ((IntKind.i64.wrap (Int.tdiv (IntKind.i64.wrap (Int.tdiv (IntKind.i64.wrap (8 * (IntKind.i64.wrap (t0 - (IntKind.i64.wrap (y1.2.1 * t1)))))) t1)) 2)) == 3) then (
             some ((), ((IntKind.i64.wrap (0 - y5.2.1)), (y4.2.1, ()))))
            else (
             some ((), (y5.2.1, (y4.2.1, ())))))))
         else (
          bif ((IntKind.i64.wrap (Int.tdiv (IntKind.i64.wrap (Int.tdiv (IntKind.i64.wrap (8 * (IntKind.i64.wrap (t0 - (IntKind.i64.wrap (y1.2.1 * t1)))))) t1)) 2)) == 1) then (
           some ((), (y4.2.1, ((IntKind.i64.wrap (0 - y5.2.1)), ()))))
          else (
           bif ((IntKind.i64.wrap (Int.tdiv (IntKind.i64.wrap (Int.tdiv (IntKind.i64.wrap (8 * (IntKind.i64.wrap (t0 - (IntKind.i64.wrap (y1.2.1 * t1)))))) t1)) 2)) == 2) then (
            some ((), ((IntKind.i64.wrap (0 - y4.2.1)), ((IntKind.i64.wrap (0 - y5.2.1)), ()))))
           else (
            bif ((IntKind.i64.wrap (Int.tdiv (IntKind.i64.wrap (Int.tdiv (IntKind.i64.wrap (8 * (IntKind.i64.wrap (t0 - (IntKind.i64.wrap (y1.2.1 * t1)))))) t1)) 2)) == 3) then (
             some ((), ((IntKind.i64.wrap (0 - y4.2.1)), (y5.2.1, ()))))
            else (
             some ((), (y4.2.1, (y5.2.1, ())))))))))
       else (
        none))
      else (
       none))
     else (
      none)))
   else (
    none))
  else (
   none)
def f90e (N : Nat) : Entry := { f := 90, pre := f90p, post := f90o, F := fun x => f90F N x.2.1 x.2.2.1 }
noncomputable def f90E (N : Nat) : Env .unit := { P := Try.prog, globs := globs, funs := [f76e N, f96e N], loops := [], ranges := [] }
theorem f90q (N : Nat) (t0 : Int) (t1 : Int) : runFun (f90E N) f90o.ty f90o (fun _ y => y) Try.f90 f90p () ((), (t0, (t1, ()))) = f90F N t0 t1 := by
  kernel_rfl
theorem f90ok (N : Nat) : EntryOk Try.prog globs (f90e N) :=
  funOk (E := f90E N) (e := f90e N) (fn := Try.f90) (c := f90c) rfl (by kernel_rfl) (by kernel_rfl) (by kernel_rfl) (by kernel_rfl) rfl rfl (List.forall_mem_cons.2 ⟨f76ok N, (List.forall_mem_cons.2 ⟨f96ok N, (List.forall_mem_nil _)⟩)⟩) (LoopsOk.none (by kernel_rfl) (by kernel_rfl)) (by kernel_rfl) (by kernel_rfl) (by kernel_rfl) (fun x => f90q N x.2.1 x.2.2.1)

/-! f91: shawm/shawmref03.Near -/
abbrev f91p : Pat := ⟨[], [(0, .dat I), (1, .dat I)]⟩
abbrev f91o : Pat := ⟨[], [(0, .dat I)]⟩
noncomputable def f91c : Code := (Try.f91.body).getD .skip
def f91F (N : Nat) (t0 : Int) (t1 : Int) : Option (Unit × (Int × Unit)) :=
  (f76F N t0 t1).bind fun y1 =>
  bif (decide ((IntKind.i64.wrap (t1 - (IntKind.i64.wrap (t0 - (IntKind.i64.wrap (y1.2.1 * t1)))))) ≤ (IntKind.i64.wrap (t0 - (IntKind.i64.wrap (y1.2.1 * t1)))))) then (
   some ((), ((IntKind.i64.wrap (y1.2.1 + 1)), ())))
  else (
   some ((), (y1.2.1, ())))
def f91e (N : Nat) : Entry := { f := 91, pre := f91p, post := f91o, F := fun x => f91F N x.2.1 x.2.2.1 }
noncomputable def f91E (N : Nat) : Env .unit := { P := Try.prog, globs := globs, funs := [f76e N], loops := [], ranges := [] }
theorem f91q (N : Nat) (t0 : Int) (t1 : Int) : runFun (f91E N) f91o.ty f91o (fun _ y => y) Try.f91 f91p () ((), (t0, (t1, ()))) = f91F N t0 t1 := by
  kernel_rfl
theorem f91ok (N : Nat) : EntryOk Try.prog globs (f91e N) :=
  funOk (E := f91E N) (e := f91e N) (fn := Try.f91) (c := f91c) rfl (by kernel_rfl) (by kernel_rfl) (by kernel_rfl) (by kernel_rfl) rfl rfl (List.forall_mem_cons.2 ⟨f76ok N, (List.forall_mem_nil _)⟩) (LoopsOk.none (by kernel_rfl) (by kernel_rfl)) (by kernel_rfl) (by kernel_rfl) (by kernel_rfl) (fun x => f91q N x.2.1 x.2.2.1)

/-! f77: shawm/shawmref03.Half -/
abbrev f77p : Pat := ⟨[], [(0, .dat I), (1, .dat I)]⟩
abbrev f77o : Pat := ⟨[], [(0, .dat I), (1, .dat I)]⟩
noncomputable def f77c : Code := (Try.f77.body).getD .skip
def f77F (N : Nat) (t0 : Int) (t1 : Int) : Option (Unit × (Int × (Int × Unit))) :=
  (f89F N t0 t1).bind fun y1 =>
  bif (y1.2.1 != 0) then (
   some ((), (0, (y1.2.1, ()))))
  else (
   bif (decide ((IntKind.i64.wrap (8 * t0)) < (IntKind.i64.wrap (0 - t1)))) then (
    some ((), (0, (6, ()))))
   else (
    bif (decide (t1 < (IntKind.i64.wrap (8 * t0)))) then (
     some ((), (0, (6, ()))))
    else (
     (f90F N t0 (IntKind.i64.wrap (2 * t1))).bind fun y2 =>
     (f91F N (IntKind.i64.wrap ((Int.fdiv y2.2.1 (2 ^ 16)) * 16384)) (Int.fdiv y2.2.2.1 (2 ^ 16))).bind fun y3 =>
     some ((), (y3.2.1, (0, ()))))))
def f77e (N : Nat) : Entry := { f := 77, pre := f77p, post := f77o, F := fun x => f77F N x.2.1 x.2.2.1 }
noncomputable def f77E (N : Nat) : Env .unit := { P := Try.prog, globs := globs, funs := [f89e N, f90e N, f91e N], loops := [], ranges := [] }
theorem f77q (N : Nat) (t0 : Int) (t1 : Int) : runFun (f77E N) f77o.ty f77o (fun _ y => y) Try.f77 f77p () ((), (t0, (t1, ()))) = f77F N t0 t1 := by
  kernel_rfl
theorem f77ok (N : Nat) : EntryOk Try.prog globs (f77e N) :=
  funOk (E := f77E N) (e := f77e N) (fn := Try.f77) (c := f77c) rfl (by kernel_rfl) (by kernel_rfl) (by kernel_rfl) (by kernel_rfl) rfl rfl (List.forall_mem_cons.2 ⟨f89ok N, (List.forall_mem_cons.2 ⟨f90ok N, (List.forall_mem_cons.2 ⟨f91ok N, (List.forall_mem_nil _)⟩)⟩)⟩) (LoopsOk.none (by kernel_rfl) (by kernel_rfl)) (by kernel_rfl) (by kernel_rfl) (by kernel_rfl) (fun x => f77q N x.2.1 x.2.2.1)

/-! f78: shawm/shawmref03.Sin -/
abbrev f78p : Pat := ⟨[], [(0, .dat I), (1, .dat I)]⟩
abbrev f78o : Pat := ⟨[], [(0, .dat I), (1, .dat I)]⟩
noncomputable def f78c : Code := (Try.f78.body).getD .skip
def f78F (N : Nat) (t0 : Int) (t1 : Int) : Option (Unit × (Int × (Int × Unit))) :=
  (f89F N t0 t1).bind fun y1 =>
  bif (y1.2.1 != 0) then (
   some ((), (0, (y1.2.1, ()))))
  else (
   (f90F N t0 t1).bind fun y2 =>
   (f91F N y2.2.1 70368744177664).bind fun y3 =>
   some ((), (y3.2.1, (0, ()))))
def f78e (N : Nat) : Entry := { f := 78, pre := f78p, post := f78o, F := fun x => f78F N x.2.1 x.2.2.1 }
noncomputable def f78E (N : Nat) : Env .unit := { P := Try.prog, globs := globs, funs := [f89e N, f90e N, f91e N], loops := [], ranges := [] }
theorem f78q (N : Nat) (t0 : Int) (t1 : Int) : runFun (f78E N) f78o.ty f78o (fun _ y => y) Try.f78 f78p () ((), (t0, (t1, ()))) = f78F N t0 t1 := by
  kernel_rfl
theorem f78ok (N : Nat) : EntryOk Try.prog globs (f78e N) :=
  funOk (E := f78E N) (e := f78e N) (fn := Try.f78) (c := f78c) rfl (by kernel_rfl) (by kernel_rfl) (by kernel_rfl) (by kernel_rfl) rfl rfl (List.forall_mem_cons.2 ⟨f89ok N, (List.forall_mem_cons.2 ⟨f90ok N, (List.forall_mem_cons.2 ⟨f91ok N, (List.forall_mem_nil _)⟩)⟩)⟩) (LoopsOk.none (by kernel_rfl) (by kernel_rfl)) (by kernel_rfl) (by kernel_rfl) (by kernel_rfl) (fun x => f78q N x.2.1 x.2.2.1)

end Go.Sh.c08

namespace Go.Sh.c08
open Go.Proofs

/-! f58: shawm/shawmref06.Of -/
abbrev f58p : Pat := ⟨[], [(0, .dat I), (1, .dat I)]⟩
abbrev f58o : Pat := ⟨[], [(0, .dat (.agg (.pair I (.pair I (.pair I .unit)))))]⟩
noncomputable def f58c : Code := (Try.f58.body).getD .skip
noncomputable def f58l0c : Code := (((loopsIn 0 f58c)[0]?).map (·.2)).getD .skip
abbrev f58l0p : Pat := ⟨[], [(1, .dat I), (5, .dat I), (6, .dat I)]⟩
abbrev f58l0x : List (Ex × Pat) := [(.exit 0, ⟨[], [(6, .dat I)]⟩)]
def f58l0 (N : Nat) : Nat → Int → Int → Int → Option (Unit × (Int × Unit))
  | 0, _, _, _ => none
  | n + 1, t1, t5, t6 =>
    bif (decide (t1 < (IntKind.i64.wrap ((IntKind.i64.wrap (8 * t5)) - (IntKind.i64.wrap ((IntKind.i64.wrap (2 * t6)) * t1)))))) then (
     (f58l0 N n t1 t5 (IntKind.i64.wrap (t6 + 1))).bind some)
    else (
     some ((), (t6, ())))
def f58l0L (N : Nat) : LoopE .unit := { blk := 0, pre := f58l0p, exits := f58l0x, wr := [6,19,20,21,22,23,24,25,26,27,28,29], F := fun x => f58l0 N N x.2.1 x.2.2.1 x.2.2.2.1 }
def f58F (N : Nat) (t0 : Int) (t1 : Int) : Option (Unit × ((Int × (Int × (Int × Unit))) × Unit)) :=
  (f76F N t0 t1).bind fun y1 =>
  (f58l0 N N t1 (IntKind.i64.wrap (t0 - (IntKind.i64.wrap (y1.2.1 * t1)))) 0).bind fun y2 =>
  (f77F N (IntKind.i64.wrap ((IntKind.i64.wrap (8 * (IntKind.i64.wrap (t0 - (IntKind.i64.wrap (y1.2.1 * t1)))))) - (IntKind.i64.wrap ((IntKind.i64.wrap (2 * y2.2.1)) * t1)))) (IntKind.i64.wrap (8 * t1))).bind fun y3 =>
  (f78F N (IntKind.i64.wrap ((IntKind.i64.wrap (8 * (IntKind.i64.wrap (t0 - (IntKind.i64.wrap (y1.2.1 * t1)))))) - (IntKind.i64.wrap ((IntKind.i64.wrap (2 * y2.2.1)) * t1)))) (IntKind.i64.wrap (8 * t1))).bind fun y4 =>
  some ((), ((y2.2.1, (y3.2.1, (y4.2.1, ()))), ()))
def f58e (N : Nat) : Entry := { f := 58, pre := f58p, post := f58o, F := fun x => f58F N x.2.1 x.2.2.1 }
noncomputable def f58E (N : Nat) : Env .unit := { P := Try.prog, globs := globs, funs := [f76e N, f77e N, f78e N], loops := [f58l0L N], ranges := [] }
theorem f58l0s (N : Nat) (n1 : Nat) (g : Unit) (t1 : Int) (t5 : Int) (t6 : Int) : runLoop (sT := .unit) (f58E N) (sumTy f58l0x) f58l0x (fun _ y => y) f58l0c f58l0p (fun _ x => f58l0 N n1 x.2.1 x.2.2.1 x.2.2.2.1) g ((), (t1, (t5, (t6, ())))) = f58l0 N (n1 + 1) t1 t5 t6 := by
  kernel_rfl
theorem f58l0ok (N : Nat) : LoopOk (f58E N) Try.prog f58l0c (f58l0L N) :=
  loopOk (L := f58l0L N) (f := fun n x => f58l0 N n x.2.1 x.2.2.1 x.2.2.2.1) (N := N) (LoopsOk.none (by kernel_rfl) (by kernel_rfl)) (by kernel_rfl) (by kernel_rfl) rfl rfl (fun _ => rfl) (fun n1 g x => f58l0s N n1 g x.2.1 x.2.2.1 x.2.2.2.1)
theorem f58q (N : Nat) (t0 : Int) (t1 : Int) : runFun (f58E N) f58o.ty f58o (fun _ y => y) Try.f58 f58p () ((), (t0, (t1, ()))) = f58F N t0 t1 := by
  kernel_rfl
theorem f58ok (N : Nat) : EntryOk Try.prog globs (f58e N) :=
  funOk (E := f58E N) (e := f58e N) (fn := Try.f58) (c := f58c) rfl (by kernel_rfl) (by kernel_rfl) (by kernel_rfl) (by kernel_rfl) rfl rfl (List.forall_mem_cons.2 ⟨f76ok N, (List.forall_mem_cons.2 ⟨f77ok N, (List.forall_mem_cons.2 ⟨f78ok N, (List.forall_mem_nil _)⟩)⟩)⟩) (LoopsOk.both (l := [(0, f58l0c)]) (r := []) (by kernel_rfl) (by kernel_rfl) (List.forall_mem_cons.2 ⟨LoopFor.of (L := f58l0L N) (by kernel_rfl) (f58l0ok N) (by kernel_rfl), (List.forall_mem_nil _)⟩) (List.forall_mem_nil _)) (by kernel_rfl) (by kernel_rfl) (by kernel_rfl) (fun x => f58q N x.2.1 x.2.2.1)

/-! f63: shawm/shawmref08.laps -/
abbrev f63p : Pat := ⟨[], [(0, .dat I)]⟩
abbrev f63o : Pat := ⟨[.vec 48 (.agg (.pair I (.pair I (.pair I .unit))))], [(0, .vref 0)]⟩
noncomputable def f63c : Code := (Try.f63.body).getD .skip
noncomputable def f63l0c : Code := (((loopsIn 0 f63c)[0]?).map (·.2)).getD .skip
abbrev f63l0p : Pat := ⟨[.vec 48 (.agg (.pair I (.pair I (.pair I .unit))))], [(0, .dat I), (3, .vref 0), (6, .dat I), (7, .dat I)]⟩
abbrev f63l0x : List (Ex × Pat) := [(.exit 0, ⟨[.vec 48 (.agg (.pair I (.pair I (.pair I .unit))))], [(3, .vref 0)]⟩)]
def f63l0 (N : Nat) : Nat → (List (Int × (Int × (Int × Unit)))) → Int → Int → Int → Option (((List (Int × (Int × (Int × Unit)))) × Unit) × (Unit × Unit))
  | 0, _, _, _, _ => none
  | n + 1, v0, t0, t6, t7 =>
    bif (decide (t7 < t6)) then (
     (f58F N (IntKind.i64.wrap ((IntKind.i64.wrap (t0 - (IntKind.i64.wrap (2 * t7)))) - 1)) (IntKind.i64.wrap (8 * t0))).bind fun y1 =>
     bif (decide ((List.length v0 + List.length [(y1.2.1.1, (y1.2.1.2.1, (y1.2.1.2.2.1, ())))]) * 24 ≤ 140737488355328)) then (
      (f63l0 N n (List.append v0 [(y1.2.1.1, (y1.2.1.2.1, (y1.2.1.2.2.1, ())))]) t0 t6 (IntKind.i64.wrap (t7 + 1))).bind some)
     else (
      none))
    else (
     some ((v0, ()), ((), ())))
def f63l0L (N : Nat) : LoopE .unit := { blk := 0, pre := f63l0p, exits := f63l0x, wr := [3,4,7,8,9,10,11,12,13,14,15,16,17,18,19,20,21], F := fun x => f63l0 N N x.1.1 x.2.1 x.2.2.2.1 x.2.2.2.2.1 }
def f63F (N : Nat) (t0 : Int) : Option (((List (Int × (Int × (Int × Unit)))) × Unit) × (Unit × Unit)) :=
  (f63l0 N N ([] : List (Int × (Int × (Int × Unit)))) t0 (IntKind.i64.wrap (Int.tdiv t0 2)) 0).bind fun y2 =>
  some ((y2.1.1, ()), ((), ()))
def f63e (N : Nat) : Entry := { f := 63, pre := f63p, post := f63o, F := fun x => f63F N x.2.1 }
noncomputable def f63E (N : Nat) : Env .unit := { P := Try.prog, globs := globs, funs := [f58e N], loops := [f63l0L N], ranges := [] }
theorem f63l0s (N : Nat) (n1 : Nat) (g : Unit) (v0 : (List (Int × (Int × (Int × Unit))))) (t0 : Int) (t6 : Int) (t7 : Int) : runLoop (sT := .unit) (f63E N) (sumTy f63l0x) f63l0x (fun _ y => y) f63l0c f63l0p (fun _ x => f63l0 N n1 x.1.1 x.2.1 x.2.2.2.1 x.2.2.2.2.1) g ((v0, ()), (t0, ((), (t6, (t7, ()))))) = f63l0 N (n1 + 1) v0 t0 t6 t7 := by
  kernel_rfl
theorem f63l0ok (N : Nat) : LoopOk (f63E N) Try.prog f63l0c (f63l0L N) :=
  loopOk (L := f63l0L N) (f := fun n x => f63l0 N n x.1.1 x.2.1 x.2.2.2.1 x.2.2.2.2.1) (N := N) (LoopsOk.none (by kernel_rfl) (by kernel_rfl)) (by kernel_rfl) (by kernel_rfl) rfl rfl (fun _ => rfl) (fun n1 g x => f63l0s N n1 g x.1.1 x.2.1 x.2.2.2.1 x.2.2.2.2.1)
theorem f63q (N : Nat) (t0 : Int) : runFun (f63E N) f63o.ty f63o (fun _ y => y) Try.f63 f63p () ((), (t0, ())) = f63F N t0 := by
  kernel_rfl
theorem f63ok (N : Nat) : EntryOk Try.prog globs (f63e N) :=
  funOk (E := f63E N) (e := f63e N) (fn := Try.f63) (c := f63c) rfl (by kernel_rfl) (by kernel_rfl) (by kernel_rfl) (by kernel_rfl) rfl rfl (List.forall_mem_cons.2 ⟨f58ok N, (List.forall_mem_nil _)⟩) (LoopsOk.both (l := [(0, f63l0c)]) (r := []) (by kernel_rfl) (by kernel_rfl) (List.forall_mem_cons.2 ⟨LoopFor.of (L := f63l0L N) (by kernel_rfl) (f63l0ok N) (by kernel_rfl), (List.forall_mem_nil _)⟩) (List.forall_mem_nil _)) (by kernel_rfl) (by kernel_rfl) (by kernel_rfl) (fun x => f63q N x.2.1)

/-! f79: shawm/shawmref06.R -/
abbrev f79p : Pat := ⟨[], [(0, .dat I)]⟩
abbrev f79o : Pat := ⟨[], [(0, .dat I)]⟩
noncomputable def f79c : Code := (Try.f79.body).getD .skip
def f79F (N : Nat) (t0 : Int) : Option (Unit × (Int × Unit)) :=
  (f91F N t0 16384).bind fun y1 =>
  some ((), (y1.2.1, ()))
def f79e (N : Nat) : Entry := { f := 79, pre := f79p, post := f79o, F := fun x => f79F N x.2.1 }
noncomputable def f79E (N : Nat) : Env .unit := { P := Try.prog, globs := globs, funs := [f91e N], loops := [], ranges := [] }
theorem f79q (N : Nat) (t0 : Int) : runFun (f79E N) f79o.ty f79o (fun _ y => y) Try.f79 f79p () ((), (t0, ())) = f79F N t0 := by
  kernel_rfl
theorem f79ok (N : Nat) : EntryOk Try.prog globs (f79e N) :=
  funOk (E := f79E N) (e := f79e N) (fn := Try.f79) (c := f79c) rfl (by kernel_rfl) (by kernel_rfl) (by kernel_rfl) (by kernel_rfl) rfl rfl (List.forall_mem_cons.2 ⟨f91ok N, (List.forall_mem_nil _)⟩) (LoopsOk.none (by kernel_rfl) (by kernel_rfl)) (by kernel_rfl) (by kernel_rfl) (by kernel_rfl) (fun x => f79q N x.2.1)

/-! f64: (shawm/shawmref06.Factors).Back -/
abbrev f64p : Pat := ⟨[], [(0, .dat (.agg (.pair I (.pair I (.pair I .unit))))), (1, .dat I), (2, .dat I)]⟩
abbrev f64o : Pat := ⟨[], [(0, .dat I), (1, .dat I)]⟩
noncomputable def f64c : Code := (Try.f64.body).getD .skip
noncomputable def f64l0c : Code := (((loopsIn 0 f64c)[0]?).map (·.2)).getD .skip
abbrev f64l0p : Pat := ⟨[], [(1, .dat I), (2, .dat I), (30, .dat I), (31, .dat I)]⟩
abbrev f64l0x : List (Ex × Pat) := [(.exit 0, ⟨[], [(1, .dat I), (2, .dat I)]⟩)]
def f64l0 (N : Nat) : Nat → Int → Int → Int → Int → Option (Unit × (Int × (Int × Unit)))
  | 0, _, _, _, _ => none
  | n + 1, t1, t2, t30, t31 =>
    bif (decide (t31 < t30)) then (
     (f64l0 N n t2 (IntKind.i64.wrap (0 - t1)) t30 (IntKind.i64.wrap (t31 + 1))).bind some)
    else (
     some ((), (t1, (t2, ()))))
def f64l0L (N : Nat) : LoopE .unit := { blk := 0, pre := f64l0p, exits := f64l0x, wr := [1,2,31,32,33,34,35,36], F := fun x => f64l0 N N x.2.1 x.2.2.1 x.2.2.2.1 x.2.2.2.2.1 }
def f64F (N : Nat) (t0 : (Int × (Int × (Int × Unit)))) (t1 : Int) (t2 : Int) : Option (Unit × (Int × (Int × Unit))) :=
  (f79F N (IntKind.i64.wrap (t0.2.1 * t2))).bind fun y1 =>
  (f79F N (IntKind.i64.wrap (t0.2.2.1 * (IntKind.i64.wrap (t1 + y1.2.1))))).bind fun y2 =>
  (f79F N (IntKind.i64.wrap (t0.2.1 * (IntKind.i64.wrap (t2 - y2.2.1))))).bind fun y3 =>
  (f64l0 N N (IntKind.i64.wrap ((IntKind.i64.wrap (t1 + y1.2.1)) + y3.2.1)) (IntKind.i64.wrap (t2 - y2.2.1)) t0.1 0).bind fun y4 =>
  some ((), (y4.2.1, (y4.2.2.1, ())))
def f64e (N : Nat) : Entry := { f := 64, pre := f64p, post := f64o, F := fun x => f64F N x.2.1 x.2.2.1 x.2.2.2.1 }
noncomputable def f64E (N : Nat) : Env .unit := { P := Try.prog, globs := globs, funs := [f79e N], loops := [f64l0L N], ranges := [] }
theorem f64l0s (N : Nat) (n1 : Nat) (g : Unit) (t1 : Int) (t2 : Int) (t30 : Int) (t31 : Int) : runLoop (sT := .unit) (f64E N) (sumTy f64l0x) f64l0x (fun _ y => y) f64l0c f64l0p (fun _ x => f64l0 N n1 x.2.1 x.2.2.1 x.2.2.2.1 x.2.2.2.2.1) g ((), (t1, (t2, (t30, (t31, ()))))) = f64l0 N (n1 + 1) t1 t2 t30 t31 := by
  kernel_rfl
theorem f64l0ok (N : Nat) : LoopOk (f64E N) Try.prog f64l0c (f64l0L N) :=
  loopOk (L := f64l0L N) (f := fun n x => f64l0 N n x.2.1 x.2.2.1 x.2.2.2.1 x.2.2.2.2.1) (N := N) (LoopsOk.none (by kernel_rfl) (by kernel_rfl)) (by kernel_rfl) (by kernel_rfl) rfl rfl (fun _ => rfl) (fun n1 g x => f64l0s N n1 g x.2.1 x.2.2.1 x.2.2.2.1 x.2.2.2.2.1)
theorem f64q (N : Nat) (t0 : (Int × (Int × (Int × Unit)))) (t1 : Int) (t2 : Int) : runFun (f64E N) f64o.ty f64o (fun _ y => y) Try.f64 f64p () ((), (t0, (t1, (t2, ())))) = f64F N t0 t1 t2 := by
  kernel_rfl
theorem f64ok (N : Nat) : EntryOk Try.prog globs (f64e N) :=
  funOk (E := f64E N) (e := f64e N) (fn := Try.f64) (c := f64c) rfl (by kernel_rfl) (by kernel_rfl) (by kernel_rfl) (by kernel_rfl) rfl rfl (List.forall_mem_cons.2 ⟨f79ok N, (List.forall_mem_nil _)⟩) (LoopsOk.both (l := [(0, f64l0c)]) (r := []) (by kernel_rfl) (by kernel_rfl) (List.forall_mem_cons.2 ⟨LoopFor.of (L := f64l0L N) (by kernel_rfl) (f64l0ok N) (by kernel_rfl), (List.forall_mem_nil _)⟩) (List.forall_mem_nil _)) (by kernel_rfl) (by kernel_rfl) (by kernel_rfl) (fun x => f64q N x.2.1 x.2.2.1 x.2.2.2.1)

/-! f59: (shawm/shawmref06.Factors).Turn -/
abbrev f59p : Pat := ⟨[], [(0, .dat (.agg (.pair I (.pair I (.pair I .unit))))), (1, .dat I), (2, .dat I)]⟩
abbrev f59o : Pat := ⟨[], [(0, .dat I), (1, .dat I)]⟩
noncomputable def f59c : Code := (Try.f59.body).getD .skip
noncomputable def f59l0c : Code := (((loopsIn 0 f59c)[0]?).map (·.2)).getD .skip
abbrev f59l0p : Pat := ⟨[], [(1, .dat I), (2, .dat I), (9, .dat I), (10, .dat I)]⟩
abbrev f59l0x : List (Ex × Pat) := [(.exit 0, ⟨[], [(1, .dat I), (2, .dat I)]⟩)]
def f59l0 (N : Nat) : Nat → Int → Int → Int → Int → Option (Unit × (Int × (Int × Unit)))
  | 0, _, _, _, _ => none
  | n + 1, t1, t2, t9, t10 =>
    bif (decide (t10 < t9)) then (
     (f59l0 N n (IntKind.i64.wrap (0 - t2)) t1 t9 (IntKind.i64.wrap (t10 + 1))).bind some)
    else (
     some ((), (t1, (t2, ()))))
def f59l0L (N : Nat) : LoopE .unit := { blk := 0, pre := f59l0p, exits := f59l0x, wr := [1,2,10,11,12,13,14,15], F := fun x => f59l0 N N x.2.1 x.2.2.1 x.2.2.2.1 x.2.2.2.2.1 }
def f59F (N : Nat) (t0 : (Int × (Int × (Int × Unit)))) (t1 : Int) (t2 : Int) : Option (Unit × (Int × (Int × Unit))) :=
  (f59l0 N N t1 t2 t0.1 0).bind fun y1 =>
  (f79F N (IntKind.i64.wrap (t0.2.1 * y1.2.2.1))).bind fun y2 =>
  (f79F N (IntKind.i64.wrap (t0.2.2.1 * (IntKind.i64.wrap (y1.2.1 - y2.2.1))))).bind fun y3 =>
  (f79F N (IntKind.i64.wrap (t0.2.1 * (IntKind.i64.wrap (y1.2.2.1 + y3.2.1))))).bind fun y4 =>
  some ((), ((IntKind.i64.wrap ((IntKind.i64.wrap (y1.2.1 - y2.2.1)) - y4.2.1)), ((IntKind.i64.wrap (y1.2.2.1 + y3.2.1)), ())))
def f59e (N : Nat) : Entry := { f := 59, pre := f59p, post := f59o, F := fun x => f59F N x.2.1 x.2.2.1 x.2.2.2.1 }
noncomputable def f59E (N : Nat) : Env .unit := { P := Try.prog, globs := globs, funs := [f79e N], loops := [f59l0L N], ranges := [] }
theorem f59l0s (N : Nat) (n1 : Nat) (g : Unit) (t1 : Int) (t2 : Int) (t9 : Int) (t10 : Int) : runLoop (sT := .unit) (f59E N) (sumTy f59l0x) f59l0x (fun _ y => y) f59l0c f59l0p (fun _ x => f59l0 N n1 x.2.1 x.2.2.1 x.2.2.2.1 x.2.2.2.2.1) g ((), (t1, (t2, (t9, (t10, ()))))) = f59l0 N (n1 + 1) t1 t2 t9 t10 := by
  kernel_rfl
theorem f59l0ok (N : Nat) : LoopOk (f59E N) Try.prog f59l0c (f59l0L N) :=
  loopOk (L := f59l0L N) (f := fun n x => f59l0 N n x.2.1 x.2.2.1 x.2.2.2.1 x.2.2.2.2.1) (N := N) (LoopsOk.none (by kernel_rfl) (by kernel_rfl)) (by kernel_rfl) (by kernel_rfl) rfl rfl (fun _ => rfl) (fun n1 g x => f59l0s N n1 g x.2.1 x.2.2.1 x.2.2.2.1 x.2.2.2.2.1)
theorem f59q (N : Nat) (t0 : (Int × (Int × (Int × Unit)))) (t1 : Int) (t2 : Int) : runFun (f59E N) f59o.ty f59o (fun _ y => y) Try.f59 f59p () ((), (t0, (t1, (t2, ())))) = f59F N t0 t1 t2 := by
  kernel_rfl
theorem f59ok (N : Nat) : EntryOk Try.prog globs (f59e N) :=
  funOk (E := f59E N) (e := f59e N) (fn := Try.f59) (c := f59c) rfl (by kernel_rfl) (by kernel_rfl) (by kernel_rfl) (by kernel_rfl) rfl rfl (List.forall_mem_cons.2 ⟨f79ok N, (List.forall_mem_nil _)⟩) (LoopsOk.both (l := [(0, f59l0c)]) (r := []) (by kernel_rfl) (by kernel_rfl) (List.forall_mem_cons.2 ⟨LoopFor.of (L := f59l0L N) (by kernel_rfl) (f59l0ok N) (by kernel_rfl), (List.forall_mem_nil _)⟩) (List.forall_mem_nil _)) (by kernel_rfl) (by kernel_rfl) (by kernel_rfl) (fun x => f59q N x.2.1 x.2.2.1 x.2.2.2.1)

/-! f41: shawm/shawmref08.folded -/
abbrev f41p : Pat := ⟨[], [(0, .dat (.list I)), (1, .dat (.list I)), (2, .dat .bool)]⟩
abbrev f41o : Pat := ⟨[.vec 3 I], [(0, .vref 0)]⟩
noncomputable def f41c : Code := (Try.f41.body).getD .skip
noncomputable def f41l0c : Code := (((loopsIn 0 f41c)[0]?).map (·.2)).getD .skip
noncomputable def f41l2c : Code := (((loopsIn 0 f41l0c)[0]?).map (·.2)).getD .skip
abbrev f41l2p : Pat := ⟨[.vec 3 I], [(2, .dat .bool), (7, .vref 0), (10, .dat I), (48, .dat (.list (.agg (.pair I (.pair I (.pair I .unit)))))), (49, .dat I), (50, .dat I)]⟩
abbrev f41l2x : List (Ex × Pat) := [(.exit 2, ⟨[.vec 3 I], [(7, .vref 0)]⟩)]
def f41l2 (N : Nat) : Nat → (List Int) → Bool → Int → (List (Int × (Int × (Int × Unit)))) → Int → Int → Option (((List Int) × Unit) × (Unit × Unit))
  | 0, _, _, _, _, _, _ => none
  | n + 1, v0, t2, t10, t48, t49, t50 =>
    bif (decide (t50 < t49)) then (
     bif ((decide (0 ≤ t50)) && (decide (t50 < ((List.length t48 : Nat) : Int)))) then (
      bif ((decide (0 ≤ (IntKind.i64.wrap ((IntKind.i64.wrap (t10 - 1)) - t50)))) && (decide ((IntKind.i64.wrap ((IntKind.i64.wrap (t10 - 1)) - t50)) < ((List.length v0 : Nat) : Int)))) then (
       bif ((decide (0 ≤ (IntKind.i64.wrap (t10 + t50)))) && (decide ((IntKind.i64.wrap (t10 + t50)) < ((List.length v0 : Nat) : Int)))) then (
        bif t2 then (
         (f64F N ((List.getD t48 (Int.toNat t50) (0, (0, (0, ())))).1, ((List.getD t48 (Int.toNat t50) (0, (0, (0, ())))).2.1, ((List.getD t48 (Int.toNat t50) (0, (0, (0, ())))).2.2.1, ()))) (List.getD v0 (Int.toNat (IntKind.i64.wrap ((IntKind.i64.wrap (t10 - 1)) - t50))) 0) (List.getD v0 (Int.toNat (IntKind.i64.wrap (t10 + t50))) 0)).bind fun y1 =>
         bif ((decide (0 ≤ (IntKind.i64.wrap ((IntKind.i64.wrap (t10 - 1)) - t50)))) && (decide ((IntKind.i64.wrap ((IntKind.i64.wrap (t10 - 1)) - t50)) < ((List.length v0 : Nat) : Int)))) then (
          bif ((decide (0 ≤ (IntKind.i64.wrap (t10 + t50)))) && (decide ((IntKind.i64.wrap (t10 + t50)) < ((List.length (List.set v0 (Int.toNat (IntKind.i64.wrap ((IntKind.i64.wrap (t10 - 1)) - t50))) y1.2.1) : Nat) : Int)))) then (
           (f41l2 N n (List.set (List.set v0 (Int.toNat (IntKind.i64.wrap ((IntKind.i64.wrap (t10 - 1)) - t50))) y1.2.1) (Int.toNat (IntKind.i64.wrap (t10 + t50))) y1.2.2.1) t2 t10 t48 t49 (IntKind.i64.wrap (t50 + 1))).bind some)
          else (
           none))
         else (
          none))
        else (
         (f59F N ((List.getD t48 (Int.toNat t50) (0, (0, (0, ())))).1, ((List.getD t48 (Int.toNat t50) (0, (0, (0, ())))).2.1, ((List.getD t48 (Int.toNat t50) (0, (0, (0, ())))).2.2.1, ()))) (List.getD v0 (Int.toNat (IntKind.i64.wrap ((IntKind.i64.wrap (t10 - 1)) - t50))) 0) (List.getD v0 (Int.toNat (IntKind.i64.wrap (t10 + t50))) 0)).bind fun y2 =>
         bif ((decide (0 ≤ (IntKind.i64.wrap ((IntKind.i64.wrap (t10 - 1)) - t50)))) && (decide ((IntKind.i64.wrap ((IntKind.i64.wrap (t10 - 1)) - t50)) < ((List.length v0 : Nat) : Int)))) then (
          bif ((decide (0 ≤ (IntKind.i64.wrap (t10 + t50)))) && (decide ((IntKind.i64.wrap (t10 + t50)) < ((List.length (List.set v0 (Int.toNat (IntKind.i64.wrap ((IntKind.i64.wrap (t10 - 1)) - t50))) y2.2.1) : Nat) : Int)))) then (
           (f41l2 N n (List.set (List.set v0 (Int.toNat (IntKind.i64.wrap ((IntKind.i64.wrap (t10 - 1)) - t50))) y2.2.1) (Int.toNat (IntKind.i64.wrap (t10 + t50))) y2.2.2.1) t2 t10 t48 t49 (IntKind.i64.wrap (t50 + 1))).bind some)
          else (
           none))
         else (
          none)))
       else (
        none))
      else (
       none))
     else (
      none))
    else (
     some ((v0, ()), ((), ())))
def f41l2L (N : Nat) : LoopE .unit := { blk := 2, pre := f41l2p, exits := f41l2x, wr := [13,14,15,16,50,51,52,53,54,55,56,57,58,59,60,61,62,63,64,65,66,67,68,69,70,71,72,73,74,75,76,77,78,79,80,81,82,83,84,85,86,87,88,89,90,91,92,93,94,95,96], F := fun x => f41l2 N N x.1.1 x.2.1 x.2.2.2.1 x.2.2.2.2.1 x.2.2.2.2.2.1 x.2.2.2.2.2.2.1 }
abbrev f41l0p : Pat := ⟨[.vec 3 I], [(1, .dat (.list I)), (2, .dat .bool), (7, .vref 0), (8, .dat (.list (.agg (.pair I (.pair I (.pair I .unit)))))), (9, .dat (.list (.agg (.pair I (.pair I (.pair I .unit)))))), (10, .dat I), (11, .dat I)]⟩
abbrev f41l0x : List (Ex × Pat) := [(.exit 0, ⟨[.vec 3 I], [(7, .vref 0)]⟩)]
def f41l0 (N : Nat) : Nat → (List Int) → (List Int) → Bool → (List (Int × (Int × (Int × Unit)))) → (List (Int × (Int × (Int × Unit)))) → Int → Int → Option (((List Int) × Unit) × (Unit × Unit))
  | 0, _, _, _, _, _, _, _ => none
  | n + 1, v0, t1, t2, t8, t9, t10, t11 =>
    bif (decide ((IntKind.i64.wrap (t11 + 1)) < ((List.length t1 : Nat) : Int))) then (
     bif ((decide (0 ≤ t11)) && (decide (t11 < ((List.length t1 : Nat) : Int)))) then (
      bif ((decide (0 ≤ t11)) && (decide (t11 < ((List.length t1 : Nat) : Int)))) then (
       bif ((decide (0 ≤ (IntKind.i64.wrap (t11 + 1)))) && (decide ((IntKind.i64.wrap (t11 + 1)) < ((List.length t1 : Nat) : Int)))) then (
        bif ((if (List.getD t1 (Int.toNat (IntKind.i64.wrap (t11 + 1))) 0) < (List.getD t1 (Int.toNat t11) 0) then (List.getD t1 (Int.toNat (IntKind.i64.wrap (t11 + 1))) 0) else (List.getD t1 (Int.toNat t11) 0)) == 128) then (
         (f41l2 N N v0 t2 (IntKind.i64.wrap (t10 + (List.getD t1 (Int.toNat t11) 0))) t9 ((List.length t9 : Nat) : Int) 0).bind fun y3 =>
         (f41l0 N n y3.1.1 t1 t2 t8 t9 (IntKind.i64.wrap (t10 + (List.getD t1 (Int.toNat t11) 0))) (IntKind.i64.wrap (t11 + 1))).bind some)
        else (
         (f41l2 N N v0 t2 (IntKind.i64.wrap (t10 + (List.getD t1 (Int.toNat t11) 0))) t8 ((List.length t8 : Nat) : Int) 0).bind fun y4 =>
         (f41l0 N n y4.1.1 t1 t2 t8 t9 (IntKind.i64.wrap (t10 + (List.getD t1 (Int.toNat t11) 0))) (IntKind.i64.wrap (t11 + 1))).bind some))
       else (
        none))
      else (
       none))
     else (
      none))
    else (
     some ((v0, ()), ((), ())))
def f41l0L (N : Nat) : LoopE .unit := { blk := 0, pre := f41l0p, exits := f41l0x, wr := [10,11,12,13,14,15,16,22,23,24,25,26,27,28,29,30,31,32,33,34,35,36,37,38,39,40,41,42,43,44,45,46,47,48,49,50,51,52,53,54,55,56,57,58,59,60,61,62,63,64,65,66,67,68,69,70,71,72,73,74,75,76,77,78,79,80,81,82,83,84,85,86,87,88,89,90,91,92,93,94,95,96], F := fun x => f41l0 N N x.1.1 x.2.1 x.2.2.1 x.2.2.2.2.1 x.2.2.2.2.2.1 x.2.2.2.2.2.2.1 x.2.2.2.2.2.2.2.1 }
def f41F (N : Nat) (t0 : (List Int)) (t1 : (List Int)) (t2 : Bool) : Option (((List Int) × Unit) × (Unit × Unit)) :=
  bif (decide ((List.length ([] : List Int) + List.length t0) * 8 ≤ 140737488355328)) then (
   (f63F N 16).bind fun y5 =>
   (f63F N 128).bind fun y6 =>
   (f41l0 N N (List.append ([] : List Int) t0) t1 t2 y5.1.1 y6.1.1 0 0).bind fun y7 =>
   some ((y7.1.1, ()), ((), ())))
  else (
   none)
def f41e (N : Nat) : Entry := { f := 41, pre := f41p, post := f41o, F := fun x => f41F N x.2.1 x.2.2.1 x.2.2.2.1 }
noncomputable def f41E (N : Nat) : Env .unit := { P := Try.prog, globs := globs, funs := [f63e N, f64e N, f59e N], loops := [f41l0L N, f41l2L N], ranges := [] }
theorem f41l2s (N : Nat) (n1 : Nat) (g : Unit) (v0 : (List Int)) (t2 : Bool) (t10 : Int) (t48 : (List (Int × (Int × (Int × Unit))))) (t49 : Int) (t50 : Int) : runLoop (sT := .unit) (f41E N) (sumTy f41l2x) f41l2x (fun _ y => y) f41l2c f41l2p (fun _ x => f41l2 N n1 x.1.1 x.2.1 x.2.2.2.1 x.2.2.2.2.1 x.2.2.2.2.2.1 x.2.2.2.2.2.2.1) g ((v0, ()), (t2, ((), (t10, (t48, (t49, (t50, ()))))))) = f41l2 N (n1 + 1) v0 t2 t10 t48 t49 t50 := by
  kernel_rfl
theorem f41l2ok (N : Nat) : LoopOk (f41E N) Try.prog f41l2c (f41l2L N) :=
  loopOk (L := f41l2L N) (f := fun n x => f41l2 N n x.1.1 x.2.1 x.2.2.2.1 x.2.2.2.2.1 x.2.2.2.2.2.1 x.2.2.2.2.2.2.1) (N := N) (LoopsOk.none (by kernel_rfl) (by kernel_rfl)) (by kernel_rfl) (by kernel_rfl) rfl rfl (fun _ => rfl) (fun n1 g x => f41l2s N n1 g x.1.1 x.2.1 x.2.2.2.1 x.2.2.2.2.1 x.2.2.2.2.2.1 x.2.2.2.2.2.2.1)
theorem f41l0s (N : Nat) (n1 : Nat) (g : Unit) (v0 : (List Int)) (t1 : (List Int)) (t2 : Bool) (t8 : (List (Int × (Int × (Int × Unit))))) (t9 : (List (Int × (Int × (Int × Unit))))) (t10 : Int) (t11 : Int) : runLoop (sT := .unit) (f41E N) (sumTy f41l0x) f41l0x (fun _ y => y) f41l0c f41l0p (fun _ x => f41l0 N n1 x.1.1 x.2.1 x.2.2.1 x.2.2.2.2.1 x.2.2.2.2.2.1 x.2.2.2.2.2.2.1 x.2.2.2.2.2.2.2.1) g ((v0, ()), (t1, (t2, ((), (t8, (t9, (t10, (t11, ())))))))) = f41l0 N (n1 + 1) v0 t1 t2 t8 t9 t10 t11 := by
  kernel_rfl
theorem f41l0ok (N : Nat) : LoopOk (f41E N) Try.prog f41l0c (f41l0L N) :=
  loopOk (L := f41l0L N) (f := fun n x => f41l0 N n x.1.1 x.2.1 x.2.2.1 x.2.2.2.2.1 x.2.2.2.2.2.1 x.2.2.2.2.2.2.1 x.2.2.2.2.2.2.2.1) (N := N) (LoopsOk.both (l := [(2, f41l2c)]) (r := []) (by kernel_rfl) (by kernel_rfl) (List.forall_mem_cons.2 ⟨LoopFor.of (L := f41l2L N) (by kernel_rfl) (f41l2ok N) (by kernel_rfl), (List.forall_mem_nil _)⟩) (List.forall_mem_nil _)) (by kernel_rfl) (by kernel_rfl) rfl rfl (fun _ => rfl) (fun n1 g x => f41l0s N n1 g x.1.1 x.2.1 x.2.2.1 x.2.2.2.2.1 x.2.2.2.2.2.1 x.2.2.2.2.2.2.1 x.2.2.2.2.2.2.2.1)
theorem f41q (N : Nat) (t0 : (List Int)) (t1 : (List Int)) (t2 : Bool) : runFun (f41E N) f41o.ty f41o (fun _ y => y) Try.f41 f41p () ((), (t0, (t1, (t2, ())))) = f41F N t0 t1 t2 := by
  kernel_rfl
theorem f41ok (N : Nat) : EntryOk Try.prog globs (f41e N) :=
  funOk (E := f41E N) (e := f41e N) (fn := Try.f41) (c := f41c) rfl (by kernel_rfl) (by kernel_rfl) (by kernel_rfl) (by kernel_rfl) rfl rfl (List.forall_mem_cons.2 ⟨f63ok N, (List.forall_mem_cons.2 ⟨f64ok N, (List.forall_mem_cons.2 ⟨f59ok N, (List.forall_mem_nil _)⟩)⟩)⟩) (LoopsOk.both (l := [(0, f41l0c)]) (r := []) (by kernel_rfl) (by kernel_rfl) (List.forall_mem_cons.2 ⟨LoopFor.of (L := f41l0L N) (by kernel_rfl) (f41l0ok N) (by kernel_rfl), (List.forall_mem_nil _)⟩) (List.forall_mem_nil _)) (by kernel_rfl) (by kernel_rfl) (by kernel_rfl) (fun x => f41q N x.2.1 x.2.2.1 x.2.2.2.1)

/-! f20: shawm/shawmref08.Fold -/
abbrev f20p : Pat := ⟨[], [(0, .dat (.list I)), (1, .dat (.list I))]⟩
abbrev f20o : Pat := ⟨[.vec 3 I], [(0, .vref 0), (1, .dat I)]⟩
noncomputable def f20c : Code := (Try.f20.body).getD .skip
def f20F (N : Nat) (t0 : (List Int)) (t1 : (List Int)) : Option (((List Int) × Unit) × (Unit × (Int × Unit))) :=
  (f39F N t0 t1).bind fun y1 =>
  bif (y1.2.1 != 0) then (
   some ((([] : List Int), ()), ((), (y1.2.1, ()))))
  else (
   (f29F N 65536 t0).bind fun y2 =>
   bif (!y2.2.1) then (
    some ((([] : List Int), ()), ((), (6, ()))))
   else (
    (f41F N t0 t1 false).bind fun y3 =>
    some ((y3.1.1, ()), ((), (0, ())))))
def f20e (N : Nat) : Entry := { f := 20, pre := f20p, post := f20o, F := fun x => f20F N x.2.1 x.2.2.1 }
noncomputable def f20E (N : Nat) : Env .unit := { P := Try.prog, globs := globs, funs := [f39e N, f29e N, f41e N], loops := [], ranges := [] }
theorem f20q (N : Nat) (t0 : (List Int)) (t1 : (List Int)) : runFun (f20E N) f20o.ty f20o (fun _ y => y) Try.f20 f20p () ((), (t0, (t1, ()))) = f20F N t0 t1 := by
  kernel_rfl
theorem f20ok (N : Nat) : EntryOk Try.prog globs (f20e N) :=
  funOk (E := f20E N) (e := f20e N) (fn := Try.f20) (c := f20c) rfl (by kernel_rfl) (by kernel_rfl) (by kernel_rfl) (by kernel_rfl) rfl rfl (List.forall_mem_cons.2 ⟨f39ok N, (List.forall_mem_cons.2 ⟨f29ok N, (List.forall_mem_cons.2 ⟨f41ok N, (List.forall_mem_nil _)⟩)⟩)⟩) (LoopsOk.none (by kernel_rfl) (by kernel_rfl)) (by kernel_rfl) (by kernel_rfl) (by kernel_rfl) (fun x => f20q N x.2.1 x.2.2.1)

/-! f57: shawm/shawmref07.planned -/
abbrev f57p : Pat := ⟨[], [(0, .dat I)]⟩
abbrev f57o : Pat := ⟨[], [(0, .dat (.agg (.pair I (.pair (.list (.agg (.pair I (.pair I (.pair I .unit))))) (.pair I (.pair I (.pair I .unit)))))))]⟩
noncomputable def f57c : Code := (Try.f57.body).getD .skip
noncomputable def f57l0c : Code := (((loopsIn 0 f57c)[0]?).map (·.2)).getD .skip
abbrev f57l0p : Pat := ⟨[.box [.dat I, .vref 1, .dat I, .dat I, .dat I], .vec 48 (.agg (.pair I (.pair I (.pair I .unit))))], [(0, .dat I), (3, .bptr 0), (9, .dat I), (10, .dat I)]⟩
abbrev f57l0x : List (Ex × Pat) := [(.exit 0, ⟨[.box [.dat I, .vref 1, .dat I, .dat I, .dat I], .vec 48 (.agg (.pair I (.pair I (.pair I .unit))))], []⟩)]
def f57l0 (N : Nat) : Nat → Int → Int → Int → Int → (List (Int × (Int × (Int × Unit)))) → Int → Int → Int → Option (((Int × (Unit × (Int × (Int × (Int × Unit))))) × ((List (Int × (Int × (Int × Unit)))) × Unit)) × Unit)
  | 0, _, _, _, _, _, _, _, _ => none
  | n + 1, b0_0, b0_2, b0_3, b0_4, v1, t0, t9, t10 =>
    bif (decide (t10 < t9)) then (
     (f58F N (IntKind.i64.wrap (0 - t10)) t0).bind fun y1 =>
     bif (decide ((List.length v1 + List.length [(y1.2.1.1, (y1.2.1.2.1, (y1.2.1.2.2.1, ())))]) * 24 ≤ 140737488355328)) then (
      (f57l0 N n b0_0 b0_2 b0_3 b0_4 (List.append v1 [(y1.2.1.1, (y1.2.1.2.1, (y1.2.1.2.2.1, ())))]) t0 t9 (IntKind.i64.wrap (t10 + 1))).bind some)
     else (
      none))
    else (
     some (((b0_0, ((), (b0_2, (b0_3, (b0_4, ()))))), (v1, ())), ()))
def f57l0L (N : Nat) : LoopE .unit := { blk := 0, pre := f57l0p, exits := f57l0x, wr := [4,10,11,12,13,14,15,16,17,18,19,20,21,22], F := fun x => f57l0 N N x.1.1.1 x.1.1.2.2.1 x.1.1.2.2.2.1 x.1.1.2.2.2.2.1 x.1.2.1 x.2.1 x.2.2.2.1 x.2.2.2.2.1 }
def f57F (N : Nat) (t0 : Int) : Option (Unit × ((Int × ((List (Int × (Int × (Int × Unit)))) × (Int × (Int × (Int × Unit))))) × Unit)) :=
  (f58F N (-1) 8).bind fun y2 =>
  (f57l0 N N t0 y2.2.1.1 y2.2.1.2.1 y2.2.1.2.2.1 ([] : List (Int × (Int × (Int × Unit)))) t0 (IntKind.i64.wrap (Int.tdiv t0 2)) 0).bind fun y3 =>
  some ((), ((y3.1.1.1, (y3.1.2.1, (y3.1.1.2.2.1, (y3.1.1.2.2.2.1, (y3.1.1.2.2.2.2.1, ()))))), ()))
def f57e (N : Nat) : Entry := { f := 57, pre := f57p, post := f57o, F := fun x => f57F N x.2.1 }
noncomputable def f57E (N : Nat) : Env .unit := { P := Try.prog, globs := globs, funs := [f58e N], loops := [f57l0L N], ranges := [] }
theorem f57l0s (N : Nat) (n1 : Nat) (g : Unit) (b0_0 : Int) (b0_2 : Int) (b0_3 : Int) (b0_4 : Int) (v1 : (List (Int × (Int × (Int × Unit))))) (t0 : Int) (t9 : Int) (t10 : Int) : runLoop (sT := .unit) (f57E N) (sumTy f57l0x) f57l0x (fun _ y => y) f57l0c f57l0p (fun _ x => f57l0 N n1 x.1.1.1 x.1.1.2.2.1 x.1.1.2.2.2.1 x.1.1.2.2.2.2.1 x.1.2.1 x.2.1 x.2.2.2.1 x.2.2.2.2.1) g (((b0_0, ((), (b0_2, (b0_3, (b0_4, ()))))), (v1, ())), (t0, ((), (t9, (t10, ()))))) = f57l0 N (n1 + 1) b0_0 b0_2 b0_3 b0_4 v1 t0 t9 t10 := by
  kernel_rfl
theorem f57l0ok (N : Nat) : LoopOk (f57E N) Try.prog f57l0c (f57l0L N) :=
  loopOk (L := f57l0L N) (f := fun n x => f57l0 N n x.1.1.1 x.1.1.2.2.1 x.1.1.2.2.2.1 x.1.1.2.2.2.2.1 x.1.2.1 x.2.1 x.2.2.2.1 x.2.2.2.2.1) (N := N) (LoopsOk.none (by kernel_rfl) (by kernel_rfl)) (by kernel_rfl) (by kernel_rfl) rfl rfl (fun _ => rfl) (fun n1 g x => f57l0s N n1 g x.1.1.1 x.1.1.2.2.1 x.1.1.2.2.2.1 x.1.1.2.2.2.2.1 x.1.2.1 x.2.1 x.2.2.2.1 x.2.2.2.2.1)
theorem f57q (N : Nat) (t0 : Int) : runFun (f57E N) f57o.ty f57o (fun _ y => y) Try.f57 f57p () ((), (t0, ())) = f57F N t0 := by
  kernel_rfl
theorem f57ok (N : Nat) : EntryOk Try.prog globs (f57e N) :=
  funOk (E := f57E N) (e := f57e N) (fn := Try.f57) (c := f57c) rfl (by kernel_rfl) (by kernel_rfl) (by kernel_rfl) (by kernel_rfl) rfl rfl (List.forall_mem_cons.2 ⟨f58ok N, (List.forall_mem_nil _)⟩) (LoopsOk.both (l := [(0, f57l0c)]) (r := []) (by kernel_rfl) (by kernel_rfl) (List.forall_mem_cons.2 ⟨LoopFor.of (L := f57l0L N) (by kernel_rfl) (f57l0ok N) (by kernel_rfl), (List.forall_mem_nil _)⟩) (List.forall_mem_nil _)) (by kernel_rfl) (by kernel_rfl) (by kernel_rfl) (fun x => f57q N x.2.1)

/-! f36: shawm/shawmref07.Of -/
abbrev f36p : Pat := ⟨[], [(0, .dat I)]⟩
abbrev f36o : Pat := ⟨[], [(0, .dat (.agg (.pair (.list (.agg (.pair I (.pair I (.pair I .unit))))) (.pair I (.pair (.list (.agg (.pair I (.pair I (.pair I .unit))))) (.pair I (.pair I (.pair I .unit))))))))]⟩
noncomputable def f36c : Code := (Try.f36.body).getD .skip
noncomputable def f36l0c : Code := (((loopsIn 0 f36c)[0]?).map (·.2)).getD .skip
abbrev f36l0p : Pat := ⟨[.box [.vref 1, .dat I, .dat (.list (.agg (.pair I (.pair I (.pair I .unit))))), .dat I, .dat I, .dat I], .vec 48 (.agg (.pair I (.pair I (.pair I .unit))))], [(0, .dat I), (3, .bptr 0), (10, .dat I), (11, .dat I)]⟩
abbrev f36l0x : List (Ex × Pat) := [(.exit 0, ⟨[.box [.vref 1, .dat I, .dat (.list (.agg (.pair I (.pair I (.pair I .unit))))), .dat I, .dat I, .dat I], .vec 48 (.agg (.pair I (.pair I (.pair I .unit))))], []⟩)]
def f36l0 (N : Nat) : Nat → Int → (List (Int × (Int × (Int × Unit)))) → Int → Int → Int → (List (Int × (Int × (Int × Unit)))) → Int → Int → Int → Option (((Unit × (Int × ((List (Int × (Int × (Int × Unit)))) × (Int × (Int × (Int × Unit)))))) × ((List (Int × (Int × (Int × Unit)))) × Unit)) × Unit)
  | 0, _, _, _, _, _, _, _, _, _ => none
  | n + 1, b0_1, b0_2, b0_3, b0_4, b0_5, v1, t0, t10, t11 =>
    bif (decide (t11 < t10)) then (
     (f58F N (IntKind.i64.wrap (0 - (IntKind.i64.wrap ((IntKind.i64.wrap (8 * t11)) + 1)))) (IntKind.i64.wrap (16 * t0))).bind fun y1 =>
     bif (decide ((List.length v1 + List.length [(y1.2.1.1, (y1.2.1.2.1, (y1.2.1.2.2.1, ())))]) * 24 ≤ 140737488355328)) then (
      (f36l0 N n b0_1 b0_2 b0_3 b0_4 b0_5 (List.append v1 [(y1.2.1.1, (y1.2.1.2.1, (y1.2.1.2.2.1, ())))]) t0 t10 (IntKind.i64.wrap (t11 + 1))).bind some)
     else (
      none))
    else (
     some ((((), (b0_1, (b0_2, (b0_3, (b0_4, (b0_5, ())))))), (v1, ())), ()))
def f36l0L (N : Nat) : LoopE .unit := { blk := 0, pre := f36l0p, exits := f36l0x, wr := [4,11,12,13,14,15,16,17,18,19,20,21,22,23,24,25,26], F := fun x => f36l0 N N x.1.1.2.1 x.1.1.2.2.1 x.1.1.2.2.2.1 x.1.1.2.2.2.2.1 x.1.1.2.2.2.2.2.1 x.1.2.1 x.2.1 x.2.2.2.1 x.2.2.2.2.1 }
def f36F (N : Nat) (t0 : Int) : Option (Unit × (((List (Int × (Int × (Int × Unit)))) × (Int × ((List (Int × (Int × (Int × Unit)))) × (Int × (Int × (Int × Unit)))))) × Unit)) :=
  (f57F N (IntKind.i64.wrap (Int.tdiv t0 2))).bind fun y2 =>
  (f36l0 N N y2.2.1.1 y2.2.1.2.1 y2.2.1.2.2.1 y2.2.1.2.2.2.1 y2.2.1.2.2.2.2.1 ([] : List (Int × (Int × (Int × Unit)))) t0 (IntKind.i64.wrap (Int.tdiv t0 2)) 0).bind fun y3 =>
  some ((), ((y3.1.2.1, (y3.1.1.2.1, (y3.1.1.2.2.1, (y3.1.1.2.2.2.1, (y3.1.1.2.2.2.2.1, (y3.1.1.2.2.2.2.2.1, ())))))), ()))
def f36e (N : Nat) : Entry := { f := 36, pre := f36p, post := f36o, F := fun x => f36F N x.2.1 }
noncomputable def f36E (N : Nat) : Env .unit := { P := Try.prog, globs := globs, funs := [f57e N, f58e N], loops := [f36l0L N], ranges := [] }
theorem f36l0s (N : Nat) (n1 : Nat) (g : Unit) (b0_1 : Int) (b0_2 : (List (Int × (Int × (Int × Unit))))) (b0_3 : Int) (b0_4 : Int) (b0_5 : Int) (v1 : (List (Int × (Int × (Int × Unit))))) (t0 : Int) (t10 : Int) (t11 : Int) : runLoop (sT := .unit) (f36E N) (sumTy f36l0x) f36l0x (fun _ y => y) f36l0c f36l0p (fun _ x => f36l0 N n1 x.1.1.2.1 x.1.1.2.2.1 x.1.1.2.2.2.1 x.1.1.2.2.2.2.1 x.1.1.2.2.2.2.2.1 x.1.2.1 x.2.1 x.2.2.2.1 x.2.2.2.2.1) g ((((), (b0_1, (b0_2, (b0_3, (b0_4, (b0_5, ())))))), (v1, ())), (t0, ((), (t10, (t11, ()))))) = f36l0 N (n1 + 1) b0_1 b0_2 b0_3 b0_4 b0_5 v1 t0 t10 t11 := by
  kernel_rfl
theorem f36l0ok (N : Nat) : LoopOk (f36E N) Try.prog f36l0c (f36l0L N) :=
  loopOk (L := f36l0L N) (f := fun n x => f36l0 N n x.1.1.2.1 x.1.1.2.2.1 x.1.1.2.2.2.1 x.1.1.2.2.2.2.1 x.1.1.2.2.2.2.2.1 x.1.2.1 x.2.1 x.2.2.2.1 x.2.2.2.2.1) (N := N) (LoopsOk.none (by kernel_rfl) (by kernel_rfl)) (by kernel_rfl) (by kernel_rfl) rfl rfl (fun _ => rfl) (fun n1 g x => f36l0s N n1 g x.1.1.2.1 x.1.1.2.2.1 x.1.1.2.2.2.1 x.1.1.2.2.2.2.1 x.1.1.2.2.2.2.2.1 x.1.2.1 x.2.1 x.2.2.2.1 x.2.2.2.2.1)
theorem f36q (N : Nat) (t0 : Int) : runFun (f36E N) f36o.ty f36o (fun _ y => y) Try.f36 f36p () ((), (t0, ())) = f36F N t0 := by
  kernel_rfl
theorem f36ok (N : Nat) : EntryOk Try.prog globs (f36e N) :=
  funOk (E := f36E N) (e := f36e N) (fn := Try.f36) (c := f36c) rfl (by kernel_rfl) (by kernel_rfl) (by kernel_rfl) (by kernel_rfl) rfl rfl (List.forall_mem_cons.2 ⟨f57ok N, (List.forall_mem_cons.2 ⟨f58ok N, (List.forall_mem_nil _)⟩)⟩) (LoopsOk.both (l := [(0, f36l0c)]) (r := []) (by kernel_rfl) (by kernel_rfl) (List.forall_mem_cons.2 ⟨LoopFor.of (L := f36l0L N) (by kernel_rfl) (f36l0ok N) (by kernel_rfl), (List.forall_mem_nil _)⟩) (List.forall_mem_nil _)) (by kernel_rfl) (by kernel_rfl) (by kernel_rfl) (fun x => f36q N x.2.1)

/-! f80: shawm/shawmref07.halves -/
abbrev f80p : Pat := ⟨[], [(0, .dat (.list I))]⟩
abbrev f80o : Pat := ⟨[.vec 3 I, .vec 3 I], [(0, .vref 0), (1, .vref 1)]⟩
noncomputable def f80c : Code := (Try.f80.body).getD .skip
noncomputable def f80l0c : Code := (((loopsIn 0 f80c)[0]?).map (·.2)).getD .skip
abbrev f80l0p : Pat := ⟨[.vec 3 I, .vec 3 I], [(2, .vref 0), (3, .vref 1), (6, .dat (.list I)), (7, .dat I), (8, .dat I)]⟩
abbrev f80l0x : List (Ex × Pat) := [(.exit 0, ⟨[.vec 3 I, .vec 3 I], [(2, .vref 0), (3, .vref 1)]⟩)]
def f80l0 (N : Nat) : Nat → (List Int) → (List Int) → (List Int) → Int → Int → Option (((List Int) × ((List Int) × Unit)) × (Unit × (Unit × Unit)))
  | 0, _, _, _, _, _ => none
  | n + 1, v0, v1, t6, t7, t8 =>
    bif (decide (t8 < t7)) then (
     bif ((decide (0 ≤ t8)) && (decide (t8 < ((List.length t6 : Nat) : Int)))) then (
      bif ((Int.tmod t8 2) == 0) then (
       bif (decide ((List.length v0 + List.length [(List.getD t6 (Int.toNat t8) 0)]) * 8 ≤ 140737488355328)) then (
        (f80l0 N n (List.append v0 [(List.getD t6 (Int.toNat t8) 0)]) v1 t6 t7 (IntKind.i64.wrap (t8 + 1))).bind some)
       else (
        none))
      else (
       bif (decide ((List.length v1 + List.length [(List.getD t6 (Int.toNat t8) 0)]) * 8 ≤ 140737488355328)) then (
        (f80l0 N n v0 (List.append v1 [(List.getD t6 (Int.toNat t8) 0)]) t6 t7 (IntKind.i64.wrap (t8 + 1))).bind some)
       else (
        none)))
     else (
      none))
    else (
     some ((v0, (v1, ())), ((), ((), ()))))
def f80l0L (N : Nat) : LoopE .unit := { blk := 0, pre := f80l0p, exits := f80l0x, wr := [2,3,4,5,8,9,10,11,12,13,14,15,16,17,18,19,20,21,22,23,24], F := fun x => f80l0 N N x.1.1 x.1.2.1 x.2.2.2.1 x.2.2.2.2.1 x.2.2.2.2.2.1 }
def f80F (N : Nat) (t0 : (List Int)) : Option (((List Int) × ((List Int) × Unit)) × (Unit × (Unit × Unit))) :=
  (f80l0 N N ([] : List Int) ([] : List Int) t0 ((List.length t0 : Nat) : Int) 0).bind fun y1 =>
  some ((y1.1.1, (y1.1.2.1, ())), ((), ((), ())))
def f80e (N : Nat) : Entry := { f := 80, pre := f80p, post := f80o, F := fun x => f80F N x.2.1 }
noncomputable def f80E (N : Nat) : Env .unit := { P := Try.prog, globs := globs, funs := [], loops := [f80l0L N], ranges := [] }
theorem f80l0s (N : Nat) (n1 : Nat) (g : Unit) (v0 : (List Int)) (v1 : (List Int)) (t6 : (List Int)) (t7 : Int) (t8 : Int) : runLoop (sT := .unit) (f80E N) (sumTy f80l0x) f80l0x (fun _ y => y) f80l0c f80l0p (fun _ x => f80l0 N n1 x.1.1 x.1.2.1 x.2.2.2.1 x.2.2.2.2.1 x.2.2.2.2.2.1) g ((v0, (v1, ())), ((), ((), (t6, (t7, (t8, ())))))) = f80l0 N (n1 + 1) v0 v1 t6 t7 t8 := by
  kernel_rfl
theorem f80l0ok (N : Nat) : LoopOk (f80E N) Try.prog f80l0c (f80l0L N) :=
  loopOk (L := f80l0L N) (f := fun n x => f80l0 N n x.1.1 x.1.2.1 x.2.2.2.1 x.2.2.2.2.1 x.2.2.2.2.2.1) (N := N) (LoopsOk.none (by kernel_rfl) (by kernel_rfl)) (by kernel_rfl) (by kernel_rfl) rfl rfl (fun _ => rfl) (fun n1 g x => f80l0s N n1 g x.1.1 x.1.2.1 x.2.2.2.1 x.2.2.2.2.1 x.2.2.2.2.2.1)
theorem f80q (N : Nat) (t0 : (List Int)) : runFun (f80E N) f80o.ty f80o (fun _ y => y) Try.f80 f80p () ((), (t0, ())) = f80F N t0 := by
  kernel_rfl
theorem f80ok (N : Nat) : EntryOk Try.prog globs (f80e N) :=
  funOk (E := f80E N) (e := f80e N) (fn := Try.f80) (c := f80c) rfl (by kernel_rfl) (by kernel_rfl) (by kernel_rfl) (by kernel_rfl) rfl rfl (List.forall_mem_nil _) (LoopsOk.both (l := [(0, f80l0c)]) (r := []) (by kernel_rfl) (by kernel_rfl) (List.forall_mem_cons.2 ⟨LoopFor.of (L := f80l0L N) (by kernel_rfl) (f80l0ok N) (by kernel_rfl), (List.forall_mem_nil _)⟩) (List.forall_mem_nil _)) (by kernel_rfl) (by kernel_rfl) (by kernel_rfl) (fun x => f80q N x.2.1)

/-! f81: (shawm/shawmref07.rows).by -/
abbrev f81p : Pat := ⟨[], [(0, .dat (.agg (.pair I (.pair (.list (.agg (.pair I (.pair I (.pair I .unit))))) (.pair I (.pair I (.pair I .unit))))))), (1, .dat I), (2, .dat I)]⟩
abbrev f81o : Pat := ⟨[], [(0, .dat (.agg (.pair I (.pair I (.pair I .unit)))))]⟩
noncomputable def f81c : Code := (Try.f81.body).getD .skip
def f81F (N : Nat) (t0 : (Int × ((List (Int × (Int × (Int × Unit)))) × (Int × (Int × (Int × Unit)))))) (t1 : Int) (t2 : Int) : Option (Unit × ((Int × (Int × (Int × Unit))) × Unit)) :=
  bif (!(t2 == 0)) then (
   bif ((decide (0 ≤ (IntKind.i64.wrap (t1 * (IntKind.i64.wrap (Int.tdiv t0.1 t2)))))) && (decide ((IntKind.i64.wrap (t1 * (IntKind.i64.wrap (Int.tdiv t0.1 t2)))) < ((List.length t0.2.1 : Nat) : Int)))) then (
    some ((), (((List.getD t0.2.1 (Int.toNat (IntKind.i64.wrap (t1 * (IntKind.i64.wrap (Int.tdiv t0.1 t2))))) (0, (0, (0, ())))).1, ((List.getD t0.2.1 (Int.toNat (IntKind.i64.wrap (t1 * (IntKind.i64.wrap (Int.tdiv t0.1 t2))))) (0, (0, (0, ())))).2.1, ((List.getD t0.2.1 (Int.toNat (IntKind.i64.wrap (t1 * (IntKind.i64.wrap (Int.tdiv t0.1 t2))))) (0, (0, (0, ())))).2.2.1, ()))), ())))
   else (
    none))
  else (
   none)
def f81e (N : Nat) : Entry := { f := 81, pre := f81p, post := f81o, F := fun x => f81F N x.2.1 x.2.2.1 x.2.2.2.1 }
noncomputable def f81E (N : Nat) : Env .unit := { P := Try.prog, globs := globs, funs := [], loops := [], ranges := [] }
theorem f81q (N : Nat) (t0 : (Int × ((List (Int × (Int × (Int × Unit)))) × (Int × (Int × (Int × Unit)))))) (t1 : Int) (t2 : Int) : runFun (f81E N) f81o.ty f81o (fun _ y => y) Try.f81 f81p () ((), (t0, (t1, (t2, ())))) = f81F N t0 t1 t2 := by
  kernel_rfl
theorem f81ok (N : Nat) : EntryOk Try.prog globs (f81e N) :=
  funOk (E := f81E N) (e := f81e N) (fn := Try.f81) (c := f81c) rfl (by kernel_rfl) (by kernel_rfl) (by kernel_rfl) (by kernel_rfl) rfl rfl (List.forall_mem_nil _) (LoopsOk.none (by kernel_rfl) (by kernel_rfl)) (by kernel_rfl) (by kernel_rfl) (by kernel_rfl) (fun x => f81q N x.2.1 x.2.2.1 x.2.2.2.1)

end Go.Sh.c08

namespace Go.Sh.c08
open Go.Proofs

/-! f60: (shawm/shawmref07.rows).mixed -/
abbrev f60p : Pat := ⟨[], [(0, .dat (.agg (.pair I (.pair (.list (.agg (.pair I (.pair I (.pair I .unit))))) (.pair I (.pair I (.pair I .unit))))))), (1, .dat (.list I)), (2, .dat (.list I))]⟩
abbrev f60o : Pat := ⟨[.vec 3 I, .vec 3 I], [(0, .vref 0), (1, .vref 1)]⟩
noncomputable def f60c : Code := (Try.f60.body).getD .skip
noncomputable def f60l0c : Code := (((loopsIn 0 f60c)[0]?).map (·.2)).getD .skip
abbrev f60l0p : Pat := ⟨[.box [.dat I, .dat (.list (.agg (.pair I (.pair I (.pair I .unit))))), .dat I, .dat I, .dat I], .vec 3 I, .vec 3 I], [(3, .bptr 0), (8, .dat I), (13, .dat (.list I)), (14, .dat (.list I)), (15, .dat (.list I)), (16, .dat (.list I)), (17, .vref 1), (18, .vref 2), (65, .dat I), (66, .dat I)]⟩
abbrev f60l0x : List (Ex × Pat) := [(.exit 0, ⟨[.box [.dat I, .dat (.list (.agg (.pair I (.pair I (.pair I .unit))))), .dat I, .dat I, .dat I], .vec 3 I, .vec 3 I], [(17, .vref 1), (18, .vref 2)]⟩)]
def f60l0 (N : Nat) : Nat → Int → (List (Int × (Int × (Int × Unit)))) → Int → Int → Int → (List Int) → (List Int) → Int → (List Int) → (List Int) → (List Int) → (List Int) → Int → Int → Option (((Int × ((List (Int × (Int × (Int × Unit)))) × (Int × (Int × (Int × Unit))))) × ((List Int) × ((List Int) × Unit))) × (Unit × (Unit × Unit)))
  | 0, _, _, _, _, _, _, _, _, _, _, _, _, _, _ => none
  | n + 1, b0_0, b0_1, b0_2, b0_3, b0_4, v1, v2, t8, t13, t14, t15, t16, t65, t66 =>
    bif (decide (t66 < t65)) then (
     (f81F N (b0_0, (b0_1, (b0_2, (b0_3, (b0_4, ()))))) t66 t8).bind fun y1 =>
     bif ((decide (0 ≤ t66)) && (decide (t66 < ((List.length t15 : Nat) : Int)))) then (
      bif ((decide (0 ≤ t66)) && (decide (t66 < ((List.length t16 : Nat) : Int)))) then (
       (f59F N (y1.2.1.1, (y1.2.1.2.1, (y1.2.1.2.2.1, ()))) (List.getD t15 (Int.toNat t66) 0) (List.getD t16 (Int.toNat t66) 0)).bind fun y2 =>
       bif ((decide (0 ≤ t66)) && (decide (t66 < ((List.length t13 : Nat) : Int)))) then (
        (f59F N (b0_2, (b0_3, (b0_4, ()))) (List.getD t13 (Int.toNat t66) 0) y2.2.1).bind fun y3 =>
        bif ((decide (0 ≤ t66)) && (decide (t66 < ((List.length v1 : Nat) : Int)))) then (
         bif ((decide (0 ≤ (IntKind.i64.wrap (t66 + (IntKind.i64.wrap (Int.tdiv t8 2)))))) && (decide ((IntKind.i64.wrap (t66 + (IntKind.i64.wrap (Int.tdiv t8 2)))) < ((List.length (List.set v1 (Int.toNat t66) y3.2.1) : Nat) : Int)))) then (
          bif ((decide (0 ≤ t66)) && (decide (t66 < ((List.length t14 : Nat) : Int)))) then (
           (f59F N (b0_2, (b0_3, (b0_4, ()))) (List.getD t14 (Int.toNat t66) 0) y2.2.2.1).bind fun y4 =>
           bif ((decide (0 ≤ t66)) && (decide (t66 < ((List.length v2 : Nat) : Int)))) then (
            bif ((decide (0 ≤ (IntKind.i64.wrap (t66 + (IntKind.i64.wrap (Int.tdiv t8 2)))))) && (decide ((IntKind.i64.wrap (t66 + (IntKind.i64.wrap (Int.tdiv t8 2)))) < ((List.length (List.set v2 (Int.toNat t66) y4.2.1) : Nat) : Int)))) then (
             (f60l0 N n b0_0 b0_1 b0_2 b0_3 b0_4 (List.set (List.set v1 (Int.toNat t66) y3.2.1) (Int.toNat (IntKind.i64.wrap (t66 + (IntKind.i64.wrap (Int.tdiv t8 2))))) (IntKind.i64.wrap (0 - y3.2.2.1))) (List.set (List.set v2 (Int.toNat t66) y4.2.1) (Int.toNat (IntKind.i64.wrap (t66 + (IntKind.i64.wrap (Int.tdiv t8 2))))) (IntKind.i64.wrap (0 - y4.2.2.1))) t8 t13 t14 t15 t16 t65 (IntKind.i64.wrap (t66 + 1))).bind some)
            else (
             none))
           else (
            none))
          else (
           none))
         else (
          none))
        else (
         none))
       else (
        none))
      else (
       none))
     else (
      none))
    else (
     some (((b0_0, (b0_1, (b0_2, (b0_3, (b0_4, ()))))), (v1, (v2, ()))), ((), ((), ()))))
def f60l0L (N : Nat) : LoopE .unit := { blk := 0, pre := f60l0p, exits := f60l0x, wr := [19,20,21,22,23,66,67,68,69,70,71,72,73,74,75,76,77,78,79,80,81,82,83,84,85,86,87,88,89,90,91,92,93,94,95,96,97,98,99,100,101,102,103,104,105,106,107,108,109,110,111,112,113,114,115,116,117,118,119,120,121,122,123,124,125,126,127,128,129,130,131], F := fun x => f60l0 N N x.1.1.1 x.1.1.2.1 x.1.1.2.2.1 x.1.1.2.2.2.1 x.1.1.2.2.2.2.1 x.1.2.1 x.1.2.2.1 x.2.2.1 x.2.2.2.1 x.2.2.2.2.1 x.2.2.2.2.2.1 x.2.2.2.2.2.2.1 x.2.2.2.2.2.2.2.2.2.1 x.2.2.2.2.2.2.2.2.2.2.1 }
def f60F (N : Nat) : Nat → (Int × ((List (Int × (Int × (Int × Unit)))) × (Int × (Int × (Int × Unit))))) → (List Int) → (List Int) → Option (((List Int) × ((List Int) × Unit)) × (Unit × (Unit × Unit)))
  | 0, _, _, _ => none
  | n + 1, t0, t1, t2 =>
    bif (((List.length t1 : Nat) : Int) == 1) then (
     bif (true && (decide (0 < ((List.length t1 : Nat) : Int)))) then (
      bif (true && (decide (0 < ((List.length t2 : Nat) : Int)))) then (
       some (([(List.getD t1 0 0)], ([(List.getD t2 0 0)], ())), ((), ((), ()))))
      else (
       none))
     else (
      none))
    else (
     (f80F N t1).bind fun y5 =>
     (f80F N t2).bind fun y6 =>
     (f60F N n (t0.1, (t0.2.1, (t0.2.2.1, (t0.2.2.2.1, (t0.2.2.2.2.1, ()))))) y5.1.1 y6.1.1).bind fun y7 =>
     (f60F N n (t0.1, (t0.2.1, (t0.2.2.1, (t0.2.2.2.1, (t0.2.2.2.2.1, ()))))) y5.1.2.1 y6.1.2.1).bind fun y8 =>
     bif ((((List.length t1 : Nat) : Int) == ((List.length t1 : Nat) : Int)) && (decide (0 ≤ ((List.length t1 : Nat) : Int))) && (decide (((List.length t1 : Nat) : Int) * 8 ≤ 140737488355328))) then (
      bif ((((List.length t1 : Nat) : Int) == ((List.length t1 : Nat) : Int)) && (decide (0 ≤ ((List.length t1 : Nat) : Int))) && (decide (((List.length t1 : Nat) : Int) * 8 ≤ 140737488355328))) then (
       (f60l0 N N t0.1 t0.2.1 t0.2.2.1 t0.2.2.2.1 t0.2.2.2.2.1 (List.replicate (Int.toNat ((List.length t1 : Nat) : Int)) (0 : Int)) (List.replicate (Int.toNat ((List.length t1 : Nat) : Int)) (0 : Int)) ((List.length t1 : Nat) : Int) y7.1.1 y7.1.2.1 y8.1.1 y8.1.2.1 (IntKind.i64.wrap (Int.tdiv ((List.length t1 : Nat) : Int) 2)) 0).bind fun y9 =>
       some ((y9.1.2.1, (y9.1.2.2.1, ())), ((), ((), ()))))
      else (
       none))
     else (
      none))
def f60e (N n : Nat) : Entry := { f := 60, pre := f60p, post := f60o, F := fun x => f60F N n x.2.1 x.2.2.1 x.2.2.2.1 }
noncomputable def f60E (N n : Nat) : Env .unit := { P := Try.prog, globs := globs, funs := [f80e N, f60e N n, f81e N, f59e N], loops := [f60l0L N], ranges := [] }
theorem f60l0s (N n : Nat) (n1 : Nat) (g : Unit) (b0_0 : Int) (b0_1 : (List (Int × (Int × (Int × Unit))))) (b0_2 : Int) (b0_3 : Int) (b0_4 : Int) (v1 : (List Int)) (v2 : (List Int)) (t8 : Int) (t13 : (List Int)) (t14 : (List Int)) (t15 : (List Int)) (t16 : (List Int)) (t65 : Int) (t66 : Int) : runLoop (sT := .unit) (f60E N n) (sumTy f60l0x) f60l0x (fun _ y => y) f60l0c f60l0p (fun _ x => f60l0 N n1 x.1.1.1 x.1.1.2.1 x.1.1.2.2.1 x.1.1.2.2.2.1 x.1.1.2.2.2.2.1 x.1.2.1 x.1.2.2.1 x.2.2.1 x.2.2.2.1 x.2.2.2.2.1 x.2.2.2.2.2.1 x.2.2.2.2.2.2.1 x.2.2.2.2.2.2.2.2.2.1 x.2.2.2.2.2.2.2.2.2.2.1) g (((b0_0, (b0_1, (b0_2, (b0_3, (b0_4, ()))))), (v1, (v2, ()))), ((), (t8, (t13, (t14, (t15, (t16, ((), ((), (t65, (t66, ()))))))))))) = f60l0 N (n1 + 1) b0_0 b0_1 b0_2 b0_3 b0_4 v1 v2 t8 t13 t14 t15 t16 t65 t66 := by
  kernel_rfl
theorem f60l0ok (N n : Nat) : LoopOk (f60E N n) Try.prog f60l0c (f60l0L N) :=
  loopOk (L := f60l0L N) (f := fun n x => f60l0 N n x.1.1.1 x.1.1.2.1 x.1.1.2.2.1 x.1.1.2.2.2.1 x.1.1.2.2.2.2.1 x.1.2.1 x.1.2.2.1 x.2.2.1 x.2.2.2.1 x.2.2.2.2.1 x.2.2.2.2.2.1 x.2.2.2.2.2.2.1 x.2.2.2.2.2.2.2.2.2.1 x.2.2.2.2.2.2.2.2.2.2.1) (N := N) (LoopsOk.none (by kernel_rfl) (by kernel_rfl)) (by kernel_rfl) (by kernel_rfl) rfl rfl (fun _ => rfl) (fun n1 g x => f60l0s N n n1 g x.1.1.1 x.1.1.2.1 x.1.1.2.2.1 x.1.1.2.2.2.1 x.1.1.2.2.2.2.1 x.1.2.1 x.1.2.2.1 x.2.2.1 x.2.2.2.1 x.2.2.2.2.1 x.2.2.2.2.2.1 x.2.2.2.2.2.2.1 x.2.2.2.2.2.2.2.2.2.1 x.2.2.2.2.2.2.2.2.2.2.1)
theorem f60q (N n : Nat) (t0 : (Int × ((List (Int × (Int × (Int × Unit)))) × (Int × (Int × (Int × Unit)))))) (t1 : (List Int)) (t2 : (List Int)) : runFun (f60E N n) f60o.ty f60o (fun _ y => y) Try.f60 f60p () ((), (t0, (t1, (t2, ())))) = f60F N (n + 1) t0 t1 t2 := by
  kernel_rfl
theorem f60ok (N : Nat) : ∀ n, EntryOk Try.prog globs (f60e N n) := by
  intro n
  induction n with
  | zero => exact EntryOk.zero (by kernel_rfl : Try.prog.funcs[60]? = some Try.f60) (by kernel_rfl : Try.f60.body = some f60c) (by kernel_rfl) (fun _ => rfl)
  | succ n ih =>
    refine funOk (E := f60E N n) (e := f60e N (n + 1)) (fn := Try.f60) (c := f60c) rfl (by kernel_rfl) (by kernel_rfl) (by kernel_rfl) (by kernel_rfl) rfl rfl (List.forall_mem_cons.2 ⟨f80ok N, (List.forall_mem_cons.2 ⟨ih, (List.forall_mem_cons.2 ⟨f81ok N, (List.forall_mem_cons.2 ⟨f59ok N, (List.forall_mem_nil _)⟩)⟩)⟩)⟩) (LoopsOk.both (l := [(0, f60l0c)]) (r := []) (by kernel_rfl) (by kernel_rfl) (List.forall_mem_cons.2 ⟨LoopFor.of (L := f60l0L N) (by kernel_rfl) (f60l0ok N n) (by kernel_rfl), (List.forall_mem_nil _)⟩) (List.forall_mem_nil _)) (by kernel_rfl) (by kernel_rfl) (by kernel_rfl) (fun x => f60q N n x.2.1 x.2.2.1 x.2.2.2.1)

end Go.Sh.c08

namespace Go.Sh.c08
open Go.Proofs

/-! f84: (shawm/shawmref07.rows).unmixed -/
abbrev f84p : Pat := ⟨[], [(0, .dat (.agg (.pair I (.pair (.list (.agg (.pair I (.pair I (.pair I .unit))))) (.pair I (.pair I (.pair I .unit))))))), (1, .dat (.list I)), (2, .dat (.list I))]⟩
abbrev f84o : Pat := ⟨[.vec 3 I, .vec 3 I], [(0, .vref 0), (1, .vref 1)]⟩
noncomputable def f84c : Code := (Try.f84.body).getD .skip
noncomputable def f84l0c : Code := (((loopsIn 0 f84c)[0]?).map (·.2)).getD .skip
abbrev f84l0p : Pat := ⟨[.box [.dat I, .dat (.list (.agg (.pair I (.pair I (.pair I .unit))))), .dat I, .dat I, .dat I], .vec 3 I, .vec 3 I, .vec 3 I, .vec 3 I], [(1, .dat (.list I)), (2, .dat (.list I)), (3, .bptr 0), (8, .dat I), (9, .vref 1), (10, .vref 2), (11, .vref 3), (12, .vref 4), (46, .dat I), (47, .dat I)]⟩
abbrev f84l0x : List (Ex × Pat) := [(.exit 0, ⟨[.box [.dat I, .dat (.list (.agg (.pair I (.pair I (.pair I .unit))))), .dat I, .dat I, .dat I], .vec 3 I, .vec 3 I, .vec 3 I, .vec 3 I], [(9, .vref 1), (10, .vref 2), (11, .vref 3), (12, .vref 4)]⟩)]
def f84l0 (N : Nat) : Nat → Int → (List (Int × (Int × (Int × Unit)))) → Int → Int → Int → (List Int) → (List Int) → (List Int) → (List Int) → (List Int) → (List Int) → Int → Int → Int → Option (((Int × ((List (Int × (Int × (Int × Unit)))) × (Int × (Int × (Int × Unit))))) × ((List Int) × ((List Int) × ((List Int) × ((List Int) × Unit))))) × (Unit × (Unit × (Unit × (Unit × Unit)))))
  | 0, _, _, _, _, _, _, _, _, _, _, _, _, _, _ => none
  | n + 1, b0_0, b0_1, b0_2, b0_3, b0_4, v1, v2, v3, v4, t1, t2, t8, t46, t47 =>
    bif (decide (t47 < t46)) then (
     bif ((decide (0 ≤ t47)) && (decide (t47 < ((List.length t1 : Nat) : Int)))) then (
      bif ((decide (0 ≤ (IntKind.i64.wrap (t47 + (IntKind.i64.wrap (Int.tdiv t8 2)))))) && (decide ((IntKind.i64.wrap (t47 + (IntKind.i64.wrap (Int.tdiv t8 2)))) < ((List.length t1 : Nat) : Int)))) then (
       (f64F N (b0_2, (b0_3, (b0_4, ()))) (List.getD t1 (Int.toNat t47) 0) (IntKind.i64.wrap (0 - (List.getD t1 (Int.toNat (IntKind.i64.wrap (t47 + (IntKind.i64.wrap (Int.tdiv t8 2))))) 0)))).bind fun y1 =>
       bif ((decide (0 ≤ t47)) && (decide (t47 < ((List.length t2 : Nat) : Int)))) then (
        bif ((decide (0 ≤ (IntKind.i64.wrap (t47 + (IntKind.i64.wrap (Int.tdiv t8 2)))))) && (decide ((IntKind.i64.wrap (t47 + (IntKind.i64.wrap (Int.tdiv t8 2)))) < ((List.length t2 : Nat) : Int)))) then (
         (f64F N (b0_2, (b0_3, (b0_4, ()))) (List.getD t2 (Int.toNat t47) 0) (IntKind.i64.wrap (0 - (List.getD t2 (Int.toNat (IntKind.i64.wrap (t47 + (IntKind.i64.wrap (Int.tdiv t8 2))))) 0)))).bind fun y2 =>
         bif ((decide (0 ≤ t47)) && (decide (t47 < ((List.length v1 : Nat) : Int)))) then (
          bif ((decide (0 ≤ t47)) && (decide (t47 < ((List.length v2 : Nat) : Int)))) then (
           (f81F N (b0_0, (b0_1, (b0_2, (b0_3, (b0_4, ()))))) t47 t8).bind fun y3 =>
           (f64F N (y3.2.1.1, (y3.2.1.2.1, (y3.2.1.2.2.1, ()))) y1.2.2.1 y2.2.2.1).bind fun y4 =>
           bif ((decide (0 ≤ t47)) && (decide (t47 < ((List.length v3 : Nat) : Int)))) then (
            bif ((decide (0 ≤ t47)) && (decide (t47 < ((List.length v4 : Nat) : Int)))) then (
             (f84l0 N n b0_0 b0_1 b0_2 b0_3 b0_4 (List.set v1 (Int.toNat t47) y1.2.1) (List.set v2 (Int.toNat t47) y2.2.1) (List.set v3 (Int.toNat t47) y4.2.1) (List.set v4 (Int.toNat t47) y4.2.2.1) t1 t2 t8 t46 (IntKind.i64.wrap (t47 + 1))).bind some)
            else (
             none))
           else (
            none))
          else (
           none))
         else (
          none))
        else (
         none))
       else (
        none))
      else (
       none))
     else (
      none))
    else (
     some (((b0_0, (b0_1, (b0_2, (b0_3, (b0_4, ()))))), (v1, (v2, (v3, (v4, ()))))), ((), ((), ((), ((), ()))))))
def f84l0L (N : Nat) : LoopE .unit := { blk := 0, pre := f84l0p, exits := f84l0x, wr := [13,14,15,16,17,47,48,49,50,51,52,53,54,55,56,57,58,59,60,61,62,63,64,65,66,67,68,69,70,71,72,73,74,75,76,77,78,79,80,81,82,83,84,85,86,87,88,89,90,91,92,93,94,95,96,97,98,99,100,101,102,103,104,105,106,107,108,109,110,111,112], F := fun x => f84l0 N N x.1.1.1 x.1.1.2.1 x.1.1.2.2.1 x.1.1.2.2.2.1 x.1.1.2.2.2.2.1 x.1.2.1 x.1.2.2.1 x.1.2.2.2.1 x.1.2.2.2.2.1 x.2.1 x.2.2.1 x.2.2.2.2.1 x.2.2.2.2.2.2.2.2.2.1 x.2.2.2.2.2.2.2.2.2.2.1 }
noncomputable def f84l2c : Code := (((loopsIn 0 f84c)[1]?).map (·.2)).getD .skip
abbrev f84l2p : Pat := ⟨[.vec 3 I, .vec 3 I], [(9, .dat (.list I)), (10, .dat (.list I)), (11, .dat (.list I)), (12, .dat (.list I)), (18, .vref 0), (19, .vref 1), (132, .dat I), (133, .dat I)]⟩
abbrev f84l2x : List (Ex × Pat) := [(.exit 2, ⟨[.vec 3 I, .vec 3 I], [(18, .vref 0), (19, .vref 1)]⟩)]
def f84l2 (N : Nat) : Nat → (List Int) → (List Int) → (List Int) → (List Int) → (List Int) → (List Int) → Int → Int → Option (((List Int) × ((List Int) × Unit)) × (Unit × (Unit × Unit)))
  | 0, _, _, _, _, _, _, _, _ => none
  | n + 1, v0, v1, t9, t10, t11, t12, t132, t133 =>
    bif (decide (t133 < t132)) then (
     bif ((decide (0 ≤ t133)) && (decide (t133 < ((List.length t9 : Nat) : Int)))) then (
      bif ((decide (0 ≤ (IntKind.i64.wrap (2 * t133)))) && (decide ((IntKind.i64.wrap (2 * t133)) < ((List.length v0 : Nat) : Int)))) then (
       bif ((decide (0 ≤ t133)) && (decide (t133 < ((List.length t11 : Nat) : Int)))) then (
        bif ((decide (0 ≤ (IntKind.i64.wrap ((IntKind.i64.wrap (2 * t133)) + 1)))) && (decide ((IntKind.i64.wrap ((IntKind.i64.wrap (2 * t133)) + 1)) < ((List.length (List.set v0 (Int.toNat (IntKind.i64.wrap (2 * t133))) (List.getD t9 (Int.toNat t133) 0)) : Nat) : Int)))) then (
         bif ((decide (0 ≤ t133)) && (decide (t133 < ((List.length t10 : Nat) : Int)))) then (
          bif ((decide (0 ≤ (IntKind.i64.wrap (2 * t133)))) && (decide ((IntKind.i64.wrap (2 * t133)) < ((List.length v1 : Nat) : Int)))) then (
           bif ((decide (0 ≤ t133)) && (decide (t133 < ((List.length t12 : Nat) : Int)))) then (
            bif ((decide (0 ≤ (IntKind.i64.wrap ((IntKind.i64.wrap (2 * t133)) + 1)))) && (decide ((IntKind.i64.wrap ((IntKind.i64.wrap (2 * t133)) + 1)) < ((List.length (List.set v1 (Int.toNat (IntKind.i64.wrap (2 * t133))) (List.getD t10 (Int.toNat t133) 0)) : Nat) : Int)))) then (
             (f84l2 N n (List.set (List.set v0 (Int.toNat (IntKind.i64.wrap (2 * t133))) (List.getD t9 (Int.toNat t133) 0)) (Int.toNat (IntKind.i64.wrap ((IntKind.i64.wrap (2 * t133)) + 1))) (List.getD t11 (Int.toNat t133) 0)) (List.set (List.set v1 (Int.toNat (IntKind.i64.wrap (2 * t133))) (List.getD t10 (Int.toNat t133) 0)) (Int.toNat (IntKind.i64.wrap ((IntKind.i64.wrap (2 * t133)) + 1))) (List.getD t12 (Int.toNat t133) 0)) t9 t10 t11 t12 t132 (IntKind.i64.wrap (t133 + 1))).bind some)
            else (
             none))
           else (
            none))
          else (
           none))
         else (
          none))
        else (
         none))
       else (
        none))
      else (
       none))
     else (
      none))
    else (
     some ((v0, (v1, ())), ((), ((), ()))))
def f84l2L (N : Nat) : LoopE .unit := { blk := 2, pre := f84l2p, exits := f84l2x, wr := [20,133,134,135,136,137,138,139,140,141,142,143,144,145,146,147,148,149,150,151,152,153,154,155,156,157,158,159,160,161,162,163,164,165,166,167,168,169,170], F := fun x => f84l2 N N x.1.1 x.1.2.1 x.2.1 x.2.2.1 x.2.2.2.1 x.2.2.2.2.1 x.2.2.2.2.2.2.2.1 x.2.2.2.2.2.2.2.2.1 }
def f84F (N : Nat) : Nat → (Int × ((List (Int × (Int × (Int × Unit)))) × (Int × (Int × (Int × Unit))))) → (List Int) → (List Int) → Option (((List Int) × ((List Int) × Unit)) × (Unit × (Unit × Unit)))
  | 0, _, _, _ => none
  | n + 1, t0, t1, t2 =>
    bif (((List.length t1 : Nat) : Int) == 1) then (
     bif (true && (decide (0 < ((List.length t1 : Nat) : Int)))) then (
      bif (true && (decide (0 < ((List.length t2 : Nat) : Int)))) then (
       some (([(List.getD t1 0 0)], ([(List.getD t2 0 0)], ())), ((), ((), ()))))
      else (
       none))
     else (
      none))
    else (
     bif (((IntKind.i64.wrap (Int.tdiv ((List.length t1 : Nat) : Int) 2)) == (IntKind.i64.wrap (Int.tdiv ((List.length t1 : Nat) : Int) 2))) && (decide (0 ≤ (IntKind.i64.wrap (Int.tdiv ((List.length t1 : Nat) : Int) 2)))) && (decide ((IntKind.i64.wrap (Int.tdiv ((List.length t1 : Nat) : Int) 2)) * 8 ≤ 140737488355328))) then (
      bif (((IntKind.i64.wrap (Int.tdiv ((List.length t1 : Nat) : Int) 2)) == (IntKind.i64.wrap (Int.tdiv ((List.length t1 : Nat) : Int) 2))) && (decide (0 ≤ (IntKind.i64.wrap (Int.tdiv ((List.length t1 : Nat) : Int) 2)))) && (decide ((IntKind.i64.wrap (Int.tdiv ((List.length t1 : Nat) : Int) 2)) * 8 ≤ 140737488355328))) then (
       bif (((IntKind.i64.wrap (Int.tdiv ((List.length t1 : Nat) : Int) 2)) == (IntKind.i64.wrap (Int.tdiv ((List.length t1 : Nat) : Int) 2))) && (decide (0 ≤ (IntKind.i64.wrap (Int.tdiv ((List.length t1 : Nat) : Int) 2)))) && (decide ((IntKind.i64.wrap (Int.tdiv ((List.length t1 : Nat) : Int) 2)) * 8 ≤ 140737488355328))) then (
        bif (((IntKind.i64.wrap (Int.tdiv ((List.length t1 : Nat) : Int) 2)) == (IntKind.i64.wrap (Int.tdiv ((List.length t1 : Nat) : Int) 2))) && (decide (0 ≤ (IntKind.i64.wrap (Int.tdiv ((List.length t1 : Nat) : Int) 2)))) && (decide ((IntKind.i64.wrap (Int.tdiv ((List.length t1 : Nat) : Int) 2)) * 8 ≤ 140737488355328))) then (
         (f84l0 N N t0.1 t0.2.1 t0.2.2.1 t0.2.2.2.1 t0.2.2.2.2.1 (List.replicate (Int.toNat (IntKind.i64.wrap (Int.tdiv ((List.length t1 : Nat) : Int) 2))) (0 : Int)) (List.replicate (Int.toNat (IntKind.i64.wrap (Int.tdiv ((List.length t1 : Nat) : Int) 2))) (0 : Int)) (List.replicate (Int.toNat (IntKind.i64.wrap (Int.tdiv ((List.length t1 : Nat) : Int) 2))) (0 : Int)) (List.replicate (Int.toNat (IntKind.i64.wrap (Int.tdiv ((List.length t1 : Nat) : Int) 2))) (0 : Int)) t1 t2 ((List.length t1 : Nat) : Int) (IntKind.i64.wrap (Int.tdiv ((List.length t1 : Nat) : Int) 2)) 0).bind fun y5 =>
         (f84F N n (y5.1.1.1, (y5.1.1.2.1, (y5.1.1.2.2.1, (y5.1.1.2.2.2.1, (y5.1.1.2.2.2.2.1, ()))))) y5.1.2.1 y5.1.2.2.1).bind fun y6 =>
         (f84F N n (y5.1.1.1, (y5.1.1.2.1, (y5.1.1.2.2.1, (y5.1.1.2.2.2.1, (y5.1.1.2.2.2.2.1, ()))))) y5.1.2.2.2.1 y5.1.2.2.2.2.1).bind fun y7 =>
         bif ((((List.length t1 : Nat) : Int) == ((List.length t1 : Nat) : Int)) && (decide (0 ≤ ((List.length t1 : Nat) : Int))) && (decide (((List.length t1 : Nat) : Int) * 8 ≤ 140737488355328))) then (
          bif ((((List.length t1 : Nat) : Int) == ((List.length t1 : Nat) : Int)) && (decide (0 ≤ ((List.length t1 : Nat) : Int))) && (decide (((List.length t1 : Nat) : Int) * 8 ≤ 140737488355328))) then (
           (f84l2 N N (List.replicate (Int.toNat ((List.length t1 : Nat) : Int)) (0 : Int)) (List.replicate (Int.toNat ((List.length t1 : Nat) : Int)) (0 : Int)) y6.1.1 y6.1.2.1 y7.1.1 y7.1.2.1 (IntKind.i64.wrap (Int.tdiv ((List.length t1 : Nat) : Int) 2)) 0).bind fun y8 =>
           some ((y8.1.1, (y8.1.2.1, ())), ((), ((), ()))))
          else (
           none))
         else (
          none))
        else (
         none))
       else (
        none))
      else (
       none))
     else (
      none))
def f84e (N n : Nat) : Entry := { f := 84, pre := f84p, post := f84o, F := fun x => f84F N n x.2.1 x.2.2.1 x.2.2.2.1 }
noncomputable def f84E (N n : Nat) : Env .unit := { P := Try.prog, globs := globs, funs := [f64e N, f81e N, f84e N n], loops := [f84l0L N, f84l2L N], ranges := [] }
theorem f84l0s (N n : Nat) (n1 : Nat) (g : Unit) (b0_0 : Int) (b0_1 : (List (Int × (Int × (Int × Unit))))) (b0_2 : Int) (b0_3 : Int) (b0_4 : Int) (v1 : (List Int)) (v2 : (List Int)) (v3 : (List Int)) (v4 : (List Int)) (t1 : (List Int)) (t2 : (List Int)) (t8 : Int) (t46 : Int) (t47 : Int) : runLoop (sT := .unit) (f84E N n) (sumTy f84l0x) f84l0x (fun _ y => y) f84l0c f84l0p (fun _ x => f84l0 N n1 x.1.1.1 x.1.1.2.1 x.1.1.2.2.1 x.1.1.2.2.2.1 x.1.1.2.2.2.2.1 x.1.2.1 x.1.2.2.1 x.1.2.2.2.1 x.1.2.2.2.2.1 x.2.1 x.2.2.1 x.2.2.2.2.1 x.2.2.2.2.2.2.2.2.2.1 x.2.2.2.2.2.2.2.2.2.2.1) g (((b0_0, (b0_1, (b0_2, (b0_3, (b0_4, ()))))), (v1, (v2, (v3, (v4, ()))))), (t1, (t2, ((), (t8, ((), ((), ((), ((), (t46, (t47, ()))))))))))) = f84l0 N (n1 + 1) b0_0 b0_1 b0_2 b0_3 b0_4 v1 v2 v3 v4 t1 t2 t8 t46 t47 := by
  kernel_rfl
theorem f84l0ok (N n : Nat) : LoopOk (f84E N n) Try.prog f84l0c (f84l0L N) :=
  loopOk (L := f84l0L N) (f := fun n x => f84l0 N n x.1.1.1 x.1.1.2.1 x.1.1.2.2.1 x.1.1.2.2.2.1 x.1.1.2.2.2.2.1 x.1.2.1 x.1.2.2.1 x.1.2.2.2.1 x.1.2.2.2.2.1 x.2.1 x.2.2.1 x.2.2.2.2.1 x.2.2.2.2.2.2.2.2.2.1 x.2.2.2.2.2.2.2.2.2.2.1) (N := N) (LoopsOk.none (by kernel_rfl) (by kernel_rfl)) (by kernel_rfl) (by kernel_rfl) rfl rfl (fun _ => rfl) (fun n1 g x => f84l0s N n n1 g x.1.1.1 x.1.1.2.1 x.1.1.2.2.1 x.1.1.2.2.2.1 x.1.1.2.2.2.2.1 x.1.2.1 x.1.2.2.1 x.1.2.2.2.1 x.1.2.2.2.2.1 x.2.1 x.2.2.1 x.2.2.2.2.1 x.2.2.2.2.2.2.2.2.2.1 x.2.2.2.2.2.2.2.2.2.2.1)
theorem f84l2s (N n : Nat) (n1 : Nat) (g : Unit) (v0 : (List Int)) (v1 : (List Int)) (t9 : (List Int)) (t10 : (List Int)) (t11 : (List Int)) (t12 : (List Int)) (t132 : Int) (t133 : Int) : runLoop (sT := .unit) (f84E N n) (sumTy f84l2x) f84l2x (fun _ y => y) f84l2c f84l2p (fun _ x => f84l2 N n1 x.1.1 x.1.2.1 x.2.1 x.2.2.1 x.2.2.2.1 x.2.2.2.2.1 x.2.2.2.2.2.2.2.1 x.2.2.2.2.2.2.2.2.1) g ((v0, (v1, ())), (t9, (t10, (t11, (t12, ((), ((), (t132, (t133, ()))))))))) = f84l2 N (n1 + 1) v0 v1 t9 t10 t11 t12 t132 t133 := by
  kernel_rfl
theorem f84l2ok (N n : Nat) : LoopOk (f84E N n) Try.prog f84l2c (f84l2L N) :=
  loopOk (L := f84l2L N) (f := fun n x => f84l2 N n x.1.1 x.1.2.1 x.2.1 x.2.2.1 x.2.2.2.1 x.2.2.2.2.1 x.2.2.2.2.2.2.2.1 x.2.2.2.2.2.2.2.2.1) (N := N) (LoopsOk.none (by kernel_rfl) (by kernel_rfl)) (by kernel_rfl) (by kernel_rfl) rfl rfl (fun _ => rfl) (fun n1 g x => f84l2s N n n1 g x.1.1 x.1.2.1 x.2.1 x.2.2.1 x.2.2.2.1 x.2.2.2.2.1 x.2.2.2.2.2.2.2.1 x.2.2.2.2.2.2.2.2.1)
theorem f84q (N n : Nat) (t0 : (Int × ((List (Int × (Int × (Int × Unit)))) × (Int × (Int × (Int × Unit)))))) (t1 : (List Int)) (t2 : (List Int)) : runFun (f84E N n) f84o.ty f84o (fun _ y => y) Try.f84 f84p () ((), (t0, (t1, (t2, ())))) = f84F N (n + 1) t0 t1 t2 := by
  kernel_rfl
theorem f84ok (N : Nat) : ∀ n, EntryOk Try.prog globs (f84e N n) := by
  intro n
  induction n with
  | zero => exact EntryOk.zero (by kernel_rfl : Try.prog.funcs[84]? = some Try.f84) (by kernel_rfl : Try.f84.body = some f84c) (by kernel_rfl) (fun _ => rfl)
  | succ n ih =>
    refine funOk (E := f84E N n) (e := f84e N (n + 1)) (fn := Try.f84) (c := f84c) rfl (by kernel_rfl) (by kernel_rfl) (by kernel_rfl) (by kernel_rfl) rfl rfl (List.forall_mem_cons.2 ⟨f64ok N, (List.forall_mem_cons.2 ⟨f81ok N, (List.forall_mem_cons.2 ⟨ih, (List.forall_mem_nil _)⟩)⟩)⟩) (LoopsOk.both (l := [(0, f84l0c), (2, f84l2c)]) (r := []) (by kernel_rfl) (by kernel_rfl) (List.forall_mem_cons.2 ⟨LoopFor.of (L := f84l0L N) (by kernel_rfl) (f84l0ok N n) (by kernel_rfl), (List.forall_mem_cons.2 ⟨LoopFor.of (L := f84l2L N) (by kernel_rfl) (f84l2ok N n) (by kernel_rfl), (List.forall_mem_nil _)⟩)⟩) (List.forall_mem_nil _)) (by kernel_rfl) (by kernel_rfl) (by kernel_rfl) (fun x => f84q N n x.2.1 x.2.2.1 x.2.2.2.1)

/-! f62: (shawm/shawmref07.Plan).Back -/
abbrev f62p : Pat := ⟨[], [(0, .dat (.agg (.pair (.list (.agg (.pair I (.pair I (.pair I .unit))))) (.pair I (.pair (.list (.agg (.pair I (.pair I (.pair I .unit))))) (.pair I (.pair I (.pair I .unit)))))))), (1, .dat (.list I))]⟩
abbrev f62o : Pat := ⟨[.vec 3 I], [(0, .vref 0)]⟩
noncomputable def f62c : Code := (Try.f62.body).getD .skip
noncomputable def f62l0c : Code := (((loopsIn 0 f62c)[0]?).map (·.2)).getD .skip
abbrev f62l0p : Pat := ⟨[.box [.dat (.list (.agg (.pair I (.pair I (.pair I .unit))))), .dat I, .dat (.list (.agg (.pair I (.pair I (.pair I .unit))))), .dat I, .dat I, .dat I], .vec 3 I, .vec 3 I], [(1, .dat (.list I)), (2, .bptr 0), (5, .dat I), (6, .vref 1), (7, .vref 2), (24, .dat I), (25, .dat I)]⟩
abbrev f62l0x : List (Ex × Pat) := [(.exit 0, ⟨[.box [.dat (.list (.agg (.pair I (.pair I (.pair I .unit))))), .dat I, .dat (.list (.agg (.pair I (.pair I (.pair I .unit))))), .dat I, .dat I, .dat I], .vec 3 I, .vec 3 I], [(6, .vref 1), (7, .vref 2)]⟩)]
def f62l0 (N : Nat) : Nat → (List (Int × (Int × (Int × Unit)))) → Int → (List (Int × (Int × (Int × Unit)))) → Int → Int → Int → (List Int) → (List Int) → (List Int) → Int → Int → Int → Option ((((List (Int × (Int × (Int × Unit)))) × (Int × ((List (Int × (Int × (Int × Unit)))) × (Int × (Int × (Int × Unit)))))) × ((List Int) × ((List Int) × Unit))) × (Unit × (Unit × Unit)))
  | 0, _, _, _, _, _, _, _, _, _, _, _, _ => none
  | n + 1, b0_0, b0_1, b0_2, b0_3, b0_4, b0_5, v1, v2, t1, t5, t24, t25 =>
    bif (decide (t25 < t24)) then (
     bif ((decide (0 ≤ t25)) && (decide (t25 < ((List.length b0_0 : Nat) : Int)))) then (
      bif ((decide (0 ≤ (IntKind.i64.wrap (2 * t25)))) && (decide ((IntKind.i64.wrap (2 * t25)) < ((List.length t1 : Nat) : Int)))) then (
       bif ((decide (0 ≤ (IntKind.i64.wrap ((IntKind.i64.wrap (t5 - 1)) - (IntKind.i64.wrap (2 * t25)))))) && (decide ((IntKind.i64.wrap ((IntKind.i64.wrap (t5 - 1)) - (IntKind.i64.wrap (2 * t25)))) < ((List.length t1 : Nat) : Int)))) then (
        (f64F N ((List.getD b0_0 (Int.toNat t25) (0, (0, (0, ())))).1, ((List.getD b0_0 (Int.toNat t25) (0, (0, (0, ())))).2.1, ((List.getD b0_0 (Int.toNat t25) (0, (0, (0, ())))).2.2.1, ()))) (List.getD t1 (Int.toNat (IntKind.i64.wrap (2 * t25))) 0) (IntKind.i64.wrap (0 - (List.getD t1 (Int.toNat (IntKind.i64.wrap ((IntKind.i64.wrap (t5 - 1)) - (IntKind.i64.wrap (2 * t25))))) 0)))).bind fun y1 =>
        bif ((decide (0 ≤ t25)) && (decide (t25 < ((List.length v1 : Nat) : Int)))) then (
         bif ((decide (0 ≤ t25)) && (decide (t25 < ((List.length v2 : Nat) : Int)))) then (
          (f62l0 N n b0_0 b0_1 b0_2 b0_3 b0_4 b0_5 (List.set v1 (Int.toNat t25) y1.2.1) (List.set v2 (Int.toNat t25) y1.2.2.1) t1 t5 t24 (IntKind.i64.wrap (t25 + 1))).bind some)
         else (
          none))
        else (
         none))
       else (
        none))
      else (
       none))
     else (
      none))
    else (
     some (((b0_0, (b0_1, (b0_2, (b0_3, (b0_4, (b0_5, ())))))), (v1, (v2, ()))), ((), ((), ()))))
def f62l0L (N : Nat) : LoopE .unit := { blk := 0, pre := f62l0p, exits := f62l0x, wr := [8,9,10,25,26,27,28,29,30,31,32,33,34,35,36,37,38,39,40,41,42,43,44,45,46,47,48,49,50,51,52,53,54,55,56,57,58,59], F := fun x => f62l0 N N x.1.1.1 x.1.1.2.1 x.1.1.2.2.1 x.1.1.2.2.2.1 x.1.1.2.2.2.2.1 x.1.1.2.2.2.2.2.1 x.1.2.1 x.1.2.2.1 x.2.1 x.2.2.2.1 x.2.2.2.2.2.2.1 x.2.2.2.2.2.2.2.1 }
noncomputable def f62l2c : Code := (((loopsIn 0 f62c)[1]?).map (·.2)).getD .skip
abbrev f62l2p : Pat := ⟨[.box [.dat (.list (.agg (.pair I (.pair I (.pair I .unit))))), .dat I, .dat (.list (.agg (.pair I (.pair I (.pair I .unit))))), .dat I, .dat I, .dat I], .vec 3 I], [(2, .bptr 0), (5, .dat I), (6, .dat (.list I)), (7, .dat (.list I)), (11, .vref 1), (71, .dat I), (72, .dat I)]⟩
abbrev f62l2x : List (Ex × Pat) := [(.exit 2, ⟨[.box [.dat (.list (.agg (.pair I (.pair I (.pair I .unit))))), .dat I, .dat (.list (.agg (.pair I (.pair I (.pair I .unit))))), .dat I, .dat I, .dat I], .vec 3 I], [(11, .vref 1)]⟩)]
def f62l2 (N : Nat) : Nat → (List (Int × (Int × (Int × Unit)))) → Int → (List (Int × (Int × (Int × Unit)))) → Int → Int → Int → (List Int) → Int → (List Int) → (List Int) → Int → Int → Option ((((List (Int × (Int × (Int × Unit)))) × (Int × ((List (Int × (Int × (Int × Unit)))) × (Int × (Int × (Int × Unit)))))) × ((List Int) × Unit)) × (Unit × Unit))
  | 0, _, _, _, _, _, _, _, _, _, _, _, _ => none
  | n + 1, b0_0, b0_1, b0_2, b0_3, b0_4, b0_5, v1, t5, t6, t7, t71, t72 =>
    bif (decide (t72 < t71)) then (
     bif ((decide (0 ≤ t72)) && (decide (t72 < ((List.length b0_0 : Nat) : Int)))) then (
      bif ((decide (0 ≤ t72)) && (decide (t72 < ((List.length t6 : Nat) : Int)))) then (
       bif ((decide (0 ≤ t72)) && (decide (t72 < ((List.length t7 : Nat) : Int)))) then (
        (f64F N ((List.getD b0_0 (Int.toNat t72) (0, (0, (0, ())))).1, ((List.getD b0_0 (Int.toNat t72) (0, (0, (0, ())))).2.1, ((List.getD b0_0 (Int.toNat t72) (0, (0, (0, ())))).2.2.1, ()))) (List.getD t6 (Int.toNat t72) 0) (List.getD t7 (Int.toNat t72) 0)).bind fun y2 =>
        bif ((decide (0 ≤ (IntKind.i64.wrap (2 * t72)))) && (decide ((IntKind.i64.wrap (2 * t72)) < ((List.length v1 : Nat) : Int)))) then (
         bif ((decide (0 ≤ (IntKind.i64.wrap ((IntKind.i64.wrap (t5 - 1)) - (IntKind.i64.wrap (2 * t72)))))) && (decide ((IntKind.i64.wrap ((IntKind.i64.wrap (t5 - 1)) - (IntKind.i64.wrap (2 * t72)))) < ((List.length (List.set v1 (Int.toNat (IntKind.i64.wrap (2 * t72))) y2.2.1) : Nat) : Int)))) then (
          (f62l2 N n b0_0 b0_1 b0_2 b0_3 b0_4 b0_5 (List.set (List.set v1 (Int.toNat (IntKind.i64.wrap (2 * t72))) y2.2.1) (Int.toNat (IntKind.i64.wrap ((IntKind.i64.wrap (t5 - 1)) - (IntKind.i64.wrap (2 * t72))))) y2.2.2.1) t5 t6 t7 t71 (IntKind.i64.wrap (t72 + 1))).bind some)
         else (
          none))
        else (
         none))
       else (
        none))
      else (
       none))
     else (
      none))
    else (
     some (((b0_0, (b0_1, (b0_2, (b0_3, (b0_4, (b0_5, ())))))), (v1, ())), ((), ())))
def f62l2L (N : Nat) : LoopE .unit := { blk := 2, pre := f62l2p, exits := f62l2x, wr := [12,13,14,72,73,74,75,76,77,78,79,80,81,82,83,84,85,86,87,88,89,90,91,92,93,94,95,96,97,98,99,100,101,102,103,104,105], F := fun x => f62l2 N N x.1.1.1 x.1.1.2.1 x.1.1.2.2.1 x.1.1.2.2.2.1 x.1.1.2.2.2.2.1 x.1.1.2.2.2.2.2.1 x.1.2.1 x.2.2.1 x.2.2.2.1 x.2.2.2.2.1 x.2.2.2.2.2.2.1 x.2.2.2.2.2.2.2.1 }
def f62F (N : Nat) (t0 : ((List (Int × (Int × (Int × Unit)))) × (Int × ((List (Int × (Int × (Int × Unit)))) × (Int × (Int × (Int × Unit))))))) (t1 : (List Int)) : Option (((List Int) × Unit) × (Unit × Unit)) :=
  bif (((IntKind.i64.wrap (Int.tdiv ((List.length t1 : Nat) : Int) 2)) == (IntKind.i64.wrap (Int.tdiv ((List.length t1 : Nat) : Int) 2))) && (decide (0 ≤ (IntKind.i64.wrap (Int.tdiv ((List.length t1 : Nat) : Int) 2)))) && (decide ((IntKind.i64.wrap (Int.tdiv ((List.length t1 : Nat) : Int) 2)) * 8 ≤ 140737488355328))) then (
   bif (((IntKind.i64.wrap (Int.tdiv ((List.length t1 : Nat) : Int) 2)) == (IntKind.i64.wrap (Int.tdiv ((List.length t1 : Nat) : Int) 2))) && (decide (0 ≤ (IntKind.i64.wrap (Int.tdiv ((List.length t1 : Nat) : Int) 2)))) && (decide ((IntKind.i64.wrap (Int.tdiv ((List.length t1 : Nat) : Int) 2)) * 8 ≤ 140737488355328))) then (
    (f62l0 N N t0.1 t0.2.1 t0.2.2.1 t0.2.2.2.1 t0.2.2.2.2.1 t0.2.2.2.2.2.1 (List.replicate (Int.toNat (IntKind.i64.wrap (Int.tdiv ((List.length t1 : Nat) : Int) 2))) (0 : Int)) (List.replicate (Int.toNat (IntKind.i64.wrap (Int.tdiv ((List.length t1 : Nat) : Int) 2))) (0 : Int)) t1 ((List.length t1 : Nat) : Int) (IntKind.i64.wrap (Int.tdiv ((List.length t1 : Nat) : Int) 2)) 0).bind fun y3 =>
    (f84F N N (y3.1.1.2.1, (y3.1.1.2.2.1, (y3.1.1.2.2.2.1, (y3.1.1.2.2.2.2.1, (y3.1.1.2.2.2.2.2.1, ()))))) y3.1.2.1 y3.1.2.2.1).bind fun y4 =>
    bif ((((List.length t1 : Nat) : Int) == ((List.length t1 : Nat) : Int)) && (decide (0 ≤ ((List.length t1 : Nat) : Int))) && (decide (((List.length t1 : Nat) : Int) * 8 ≤ 140737488355328))) then (
     (f62l2 N N y3.1.1.1 y3.1.1.2.1 y3.1.1.2.2.1 y3.1.1.2.2.2.1 y3.1.1.2.2.2.2.1 y3.1.1.2.2.2.2.2.1 (List.replicate (Int.toNat ((List.length t1 : Nat) : Int)) (0 : Int)) ((List.length t1 : Nat) : Int) y4.1.1 y4.1.2.1 (IntKind.i64.wrap (Int.tdiv ((List.length t1 : Nat) : Int) 2)) 0).bind fun y5 =>
     some ((y5.1.2.1, ()), ((), ())))
    else (
     none))
   else (
    none))
  else (
   none)
def f62e (N : Nat) : Entry := { f := 62, pre := f62p, post := f62o, F := fun x => f62F N x.2.1 x.2.2.1 }
noncomputable def f62E (N : Nat) : Env .unit := { P := Try.prog, globs := globs, funs := [f64e N, f84e N N], loops := [f62l0L N, f62l2L N], ranges := [] }
theorem f62l0s (N : Nat) (n1 : Nat) (g : Unit) (b0_0 : (List (Int × (Int × (Int × Unit))))) (b0_1 : Int) (b0_2 : (List (Int × (Int × (Int × Unit))))) (b0_3 : Int) (b0_4 : Int) (b0_5 : Int) (v1 : (List Int)) (v2 : (List Int)) (t1 : (List Int)) (t5 : Int) (t24 : Int) (t25 : Int) : runLoop (sT := .unit) (f62E N) (sumTy f62l0x) f62l0x (fun _ y => y) f62l0c f62l0p (fun _ x => f62l0 N n1 x.1.1.1 x.1.1.2.1 x.1.1.2.2.1 x.1.1.2.2.2.1 x.1.1.2.2.2.2.1 x.1.1.2.2.2.2.2.1 x.1.2.1 x.1.2.2.1 x.2.1 x.2.2.2.1 x.2.2.2.2.2.2.1 x.2.2.2.2.2.2.2.1) g (((b0_0, (b0_1, (b0_2, (b0_3, (b0_4, (b0_5, ())))))), (v1, (v2, ()))), (t1, ((), (t5, ((), ((), (t24, (t25, ())))))))) = f62l0 N (n1 + 1) b0_0 b0_1 b0_2 b0_3 b0_4 b0_5 v1 v2 t1 t5 t24 t25 := by
  kernel_rfl
theorem f62l0ok (N : Nat) : LoopOk (f62E N) Try.prog f62l0c (f62l0L N) :=
  loopOk (L := f62l0L N) (f := fun n x => f62l0 N n x.1.1.1 x.1.1.2.1 x.1.1.2.2.1 x.1.1.2.2.2.1 x.1.1.2.2.2.2.1 x.1.1.2.2.2.2.2.1 x.1.2.1 x.1.2.2.1 x.2.1 x.2.2.2.1 x.2.2.2.2.2.2.1 x.2.2.2.2.2.2.2.1) (N := N) (LoopsOk.none (by kernel_rfl) (by kernel_rfl)) (by kernel_rfl) (by kernel_rfl) rfl rfl (fun _ => rfl) (fun n1 g x => f62l0s N n1 g x.1.1.1 x.1.1.2.1 x.1.1.2.2.1 x.1.1.2.2.2.1 x.1.1.2.2.2.2.1 x.1.1.2.2.2.2.2.1 x.1.2.1 x.1.2.2.1 x.2.1 x.2.2.2.1 x.2.2.2.2.2.2.1 x.2.2.2.2.2.2.2.1)
theorem f62l2s (N : Nat) (n1 : Nat) (g : Unit) (b0_0 : (List (Int × (Int × (Int × Unit))))) (b0_1 : Int) (b0_2 : (List (Int × (Int × (Int × Unit))))) (b0_3 : Int) (b0_4 : Int) (b0_5 : Int) (v1 : (List Int)) (t5 : Int) (t6 : (List Int)) (t7 : (List Int)) (t71 : Int) (t72 : Int) : runLoop (sT := .unit) (f62E N) (sumTy f62l2x) f62l2x (fun _ y => y) f62l2c f62l2p (fun _ x => f62l2 N n1 x.1.1.1 x.1.1.2.1 x.1.1.2.2.1 x.1.1.2.2.2.1 x.1.1.2.2.2.2.1 x.1.1.2.2.2.2.2.1 x.1.2.1 x.2.2.1 x.2.2.2.1 x.2.2.2.2.1 x.2.2.2.2.2.2.1 x.2.2.2.2.2.2.2.1) g (((b0_0, (b0_1, (b0_2, (b0_3, (b0_4, (b0_5, ())))))), (v1, ())), ((), (t5, (t6, (t7, ((), (t71, (t72, ())))))))) = f62l2 N (n1 + 1) b0_0 b0_1 b0_2 b0_3 b0_4 b0_5 v1 t5 t6 t7 t71 t72 := by
  kernel_rfl
theorem f62l2ok (N : Nat) : LoopOk (f62E N) Try.prog f62l2c (f62l2L N) :=
  loopOk (L := f62l2L N) (f := fun n x => f62l2 N n x.1.1.1 x.1.1.2.1 x.1.1.2.2.1 x.1.1.2.2.2.1 x.1.1.2.2.2.2.1 x.1.1.2.2.2.2.2.1 x.1.2.1 x.2.2.1 x.2.2.2.1 x.2.2.2.2.1 x.2.2.2.2.2.2.1 x.2.2.2.2.2.2.2.1) (N := N) (LoopsOk.none (by kernel_rfl) (by kernel_rfl)) (by kernel_rfl) (by kernel_rfl) rfl rfl (fun _ => rfl) (fun n1 g x => f62l2s N n1 g x.1.1.1 x.1.1.2.1 x.1.1.2.2.1 x.1.1.2.2.2.1 x.1.1.2.2.2.2.1 x.1.1.2.2.2.2.2.1 x.1.2.1 x.2.2.1 x.2.2.2.1 x.2.2.2.2.1 x.2.2.2.2.2.2.1 x.2.2.2.2.2.2.2.1)
theorem f62q (N : Nat) (t0 : ((List (Int × (Int × (Int × Unit)))) × (Int × ((List (Int × (Int × (Int × Unit)))) × (Int × (Int × (Int × Unit))))))) (t1 : (List Int)) : runFun (f62E N) f62o.ty f62o (fun _ y => y) Try.f62 f62p () ((), (t0, (t1, ()))) = f62F N t0 t1 := by
  kernel_rfl
theorem f62ok (N : Nat) : EntryOk Try.prog globs (f62e N) :=
  funOk (E := f62E N) (e := f62e N) (fn := Try.f62) (c := f62c) rfl (by kernel_rfl) (by kernel_rfl) (by kernel_rfl) (by kernel_rfl) rfl rfl (List.forall_mem_cons.2 ⟨f64ok N, (List.forall_mem_cons.2 ⟨f84ok N N, (List.forall_mem_nil _)⟩)⟩) (LoopsOk.both (l := [(0, f62l0c), (2, f62l2c)]) (r := []) (by kernel_rfl) (by kernel_rfl) (List.forall_mem_cons.2 ⟨LoopFor.of (L := f62l0L N) (by kernel_rfl) (f62l0ok N) (by kernel_rfl), (List.forall_mem_cons.2 ⟨LoopFor.of (L := f62l2L N) (by kernel_rfl) (f62l2ok N) (by kernel_rfl), (List.forall_mem_nil _)⟩)⟩) (List.forall_mem_nil _)) (by kernel_rfl) (by kernel_rfl) (by kernel_rfl) (fun x => f62q N x.2.1 x.2.2.1)

end Go.Sh.c08
